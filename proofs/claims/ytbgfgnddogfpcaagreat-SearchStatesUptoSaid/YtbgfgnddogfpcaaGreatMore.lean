/-
 Points where ways meet again; Maps that count. Local structs that hold slices that are still appended to;
-/
import Derived.Test.YtbgfgnddogfpcaaGreatKeys
namespace Go.Proofs.YtbgfgnddogfpcaaGreat
section
variable {P:Program} {N:Cfg} {Q:Post} {l:Fr} {L:Loc}
variable {x y:Code}
theorem Yd {X:Type} (I:X->Prop) (F:X->Fr) (M:X->Loc)
  (h1:∀ K:Fr->Loc->Prop,(∀ l L v,I v->Fits N.base l L (F v) (M v)->K l L)->JC P N x (Q.seq K) l L)
  (h2:∀ v,I v->JC P N y Q (F v) (M v)):JC P N (.seq x y) Q l L:=
 G4 fun K hK=>h1 K fun l L v hv hf=>hK l L (iV hf (h2 v hv))
theorem Jd5 {c:Operand} (hc:ev l c=.sc (.bool true)) (ht:JC P N x Q l L):JC P N (.cond c x y) Q l L:=
 Gh hc (fun _=>ht) (fun h=>by cases h)
theorem Jd6 {c:Operand} (hc:ev l c=.sc (.bool false)) (hf:JC P N y Q l L):JC P N (.cond c x y) Q l L:=
 Gh hc (fun h=>by cases h) (fun _=>hf)
def unseen (n:Nat) (seen:AI):Nat:=((List.range n).filter fun j=>!seen.contains j).length
theorem J54 {n j:Nat} {seen:AI} (hj:j < n) (hs:j ∉ seen):unseen n (seen++[j]) < unseen n seen:=by
 unfold unseen;have h1:(List.range n).filter (fun i=>!(seen++[j]).contains i)=((List.range n).filter fun i=>!seen.contains i).filter fun i=>i != j:=by
  rw [List.filter_filter];congr 1;funext i;simp only [List.contains_append,Bool.not_or,List.contains_cons,List.contains_nil,Bool.or_false,bne];rw [Bool.and_comm]
 rw [h1];have hm:j∈(List.range n).filter fun i=>!seen.contains i:=by simp [hj,hs]
 have:∀ (l:AI),j∈l->(l.filter fun i=>i != j).length < l.length:=by
  intro l
  induction l with
  | nil=>intro h; cases h
  | cons a r ih=>
   intro h;by_cases e:a=j
   .subst e;have:=P3 (fun i=>i != a) r;simp;omega
   .have hr:j∈r:=by
     rcases Pv.1 h with h | h
     .exact absurd h.symm e
     .exact h
    have:=ih hr;simp [e];omega
 exact this _ hm
end
mutual
theorem H71 (ok:Nat->Bool):∀ u:AV,u.refs (fun _=>false)=true->u.refs ok=true
 | .AL,_=>rfl
 | .sc _,_=>rfl
 | .list _ _,_=>rfl
 | .lst ..,_=>rfl
 | .GY _,_=>rfl
 | .dmap _,_=>rfl
 | .bag _ _,_=>rfl
 | .blk ..,_=>rfl
 | .frz ..,_=>rfl
 | .agg cs,h=>Qp ok cs h
 | .tup cs,h=>Qp ok cs h
 | .fn _ cs,h=>Qp ok cs h
 | .bfn _ cs,h=>Qp ok cs h
 | .opt _ x,h=>H71 ok x h
 | .ptr _ _,h=>by cases h
 | .own ..,h=>by cases h
 | .ms ..,h=>by cases h
 | .mp _,h=>by cases h
 | .it _,h=>by cases h
 | .vec ..,h=>by cases h
theorem Qp (ok:Nat->Bool):∀ us:AD,Qr (fun _=>false) us=true->Qr ok us=true
 | [],_=>rfl
 | u::r,h=>by
  simp only [Qr,Pp] at h ⊢;exact⟨H71 ok u h.1,Qp ok r h.2⟩
end
set_option linter.unusedVariables false
set_option linter.unusedSimpArgs false
section
variable {B Z:Type} [DecidableEq B]

variable {l:List (B×Z)} {a:B}
theorem H79:lP l a=true ↔ a∈l.map (·.1):=by
 simp [lP]
theorem mS (p:B×Z) (l:List (B×Z)) (a:B):iA (p::l) a=if p.1=a then some p.2 else iA l a:=by
 unfold iA;rw [List.find?_cons];by_cases h:p.1=a <;> simp [h]
theorem ZM (l m:List (B×Z)) (a:B):iA (l++m) a=(iA l a).or (iA m a):=by
 induction l with
 | nil=>simp [iA]
 | cons p l ih=>rw [List.cons_append,mS,mS,ih]; split <;> simp
theorem sE:(iA l a).isSome=lP l a:=by
 induction l with
 | nil=>rfl
 | cons p l ih=>
  rw [mS];simp only [lP,List.any_cons];by_cases h:p.1=a
  .simp [h]
  .simpa [h,lP] using ih
theorem JP (h:lP l a=false):iA l a=none:=by
 have:=sE (l:=l) (a:=a);rw [h] at this;simpa using this
theorem Gd2 (l:List (B×Z)) (a b:B) (v:Z):iA (rE l a v) b=if a=b then some v else iA l b:=by
 unfold rE;split
 .rename_i h
  induction l with
  | nil=>simp [lP] at h
  | cons p l ih=>
   rw [List.map_cons,mS,mS];by_cases hp:p.1=a
   .simp only [hp,if_true];by_cases h0:a=b
    .simp [h0]
    .simp only [h0,if_false];by_cases hl:lP l a=true
     .rw [ih hl,if_neg h0]
     .have e:l.map (fun p=>if p.1=a then (a,v) else p)=l:=by
       conv=>rhs; rw [<- List.map_id l]
       apply List.map_congr_left;intro q hq;have:q.1≠a:=fun e=>hl (H79.2 (Pt.2 ⟨q,hq,e⟩));simp [this]
      rw [e]
   .simp only [hp,if_false];have hl:lP l a=true:=by simpa [lP,hp] using h
    rw [ih hl];by_cases h1:p.1=b
    .have:¬ a=b:=fun e=>hp (h1.trans e.symm);simp [h1,this]
    .simp [h1]
 .rename_i h;rw [ZM,mS];by_cases h0:a=b
  .subst h0; rw [JP (by simpa using h)]; simp
  .have:iA ([]:List (B×Z)) b=none:=rfl;simp [h0,this]
theorem J72 (l:List (B×Z)) (a:B) (z:Z):(iA (nR l a z) a).getD z=(iA l a).getD z:=by
 unfold nR;split
 .rfl
 .rename_i h;rw [ZM,JP (by simpa using h),mS]; simp

def tally (l:List B):List (B×Int):=l.foldl (fun m a=>rE m a ((iA m a).getD 0+1)) []
theorem vE (l:List B) (a:B):tally (l++[a])=rE (tally l) a ((iA (tally l) a).getD 0+1):=by
 simp [tally,List.foldl_append]
theorem Gfe {W:Type} {motive:List W->Prop} (l:List W) (h0:motive []) (h1:∀ l a,motive l->motive (l++[a])):motive l:=by
 have:∀ n (l:List W),l.length=n->motive l:=by
  intro n
  induction n with
  | zero=>intro l hl; rw [P1 hl]; exact h0
  | succ n ih=>
   intro l hl;have h2:l≠[]:=by intro e; rw [e] at hl; simp at hl
   rw [<- List.dropLast_concat_getLast h2];exact h1 _ _ (ih _ (by simp [hl]))
 exact this _ l rfl
theorem H5e (l:List B):((tally l).map (·.1)).Nodup:=by
 induction l using Gfe with
 | h0=>simp [tally]
 | h1 l a ih=>rw [vE]; exact G52 ih _ _
theorem RB (l:List B) (a:B):(iA (tally l) a).getD 0=(l.count a:Int):=by
 induction l using Gfe with
 | h0=>simp [tally,iA]
 | h1 l b ih=>
  rw [vE,Gd2,List.count_append];by_cases h:b=a
  .subst h; rw [if_pos rfl,ih]; simp
  .rw [if_neg h,ih]; simp [h]
theorem J5f (l:List B) (b:B) (h:b∈l):b∈(tally l).map (·.1):=by
 rw [<- H79,<- sE];have h1:=RB l b;have h2:=List.count_pos_iff.2 h;cases hm:iA (tally l) b with
 | some _=>rfl
 | none=>rw [hm] at h1; simp at h1; omega
theorem Gc3 (l:List B) {j:Nat} {n:Int} (h:(tally l)[j]? = some (a,n)):n=(l.count a:Int):=by
 have h1:=(yW (H5e l) h).1;have h2:=RB l a;rw [h1] at h2;simpa using h2
theorem H5f (l:List B) (a:B):0<=(iA (tally l) a).getD 0/\(iA (tally l) a).getD 0<=(l.length:Int):=by
 rw [RB];have:=List.count_le_length (a:=a) (l:=l);omega
theorem Gf8 (l:List B):(∀ (j:Nat) a n,(tally l)[j]? = some (a,n)->n<=1) ↔ l.Nodup:=by
 rw [List.nodup_iff_count];constructor
 .intro h a;by_cases ha:a∈l
  .obtain⟨p,hp,rfl⟩:=Pt.1 (J5f l a ha);obtain⟨j,hj⟩:=List.mem_iff_getElem?.1 hp;have:=h j p.1 p.2 hj;rw [Gc3 l hj] at this;omega
  .rw [List.count_eq_zero.2 ha]; omega
 .intro h j a n hj;rw [Gc3 l hj];have:=h a;omega
end
section
variable {P:Program} {o:Oper} {l:Fr} {L:Loc} {B Z:Type} [DecidableEq B] {kv:B->Value} {av:Z->AV}
def Q36 (P:Program) (T E k:Nat):Bool:=(match P.underlying T with | some (.array _ e)=>e==E | _=>false)&&R3 P E k
theorem HP {T E k:Nat} {parts:List (Nat×Operand)} {cs:AD} (zs:AK) (hT:Q36 P T E k=true) (hz:(P.info? T).bind (fun i=>i.zero.map Value.cells)=some zs.toArray) (ho:o.op=.build T parts.toArray) (h0:tE (fun i=>some (i*k,k)) (zs.map .sc) (parts.map fun p=>(p.1,ev l p.2))=some cs):Gy P o l L (Is (.agg cs) L):=
 Hj fun a w U _ hf=>by
  unfold Q36 at hT;simp only [Pp] at hT;obtain⟨hT,hE⟩:=hT;split at hT
  .rename_i n e hu;simp at hT; subst hT;cases h1:P.info? T with
   | none=>rw [h1] at hz; simp at hz
   | some inf=>
    rw [h1] at hz;cases h2:inf.zero with
    | none=>simp [h2] at hz
    | some z=>
     simp only [Option.bind_some,h2,Option.map_some,Option.some.injEq] at hz;obtain⟨vs',e1,e2,e3⟩:=nK (w:=w) (U:=U) (L:=L) (qs:=parts.map fun p=>(p.1,a.eval p.2)) (vs:=zs.toArray) h0 (by simp) (fun j p q hp hq=>by
      simp only [Pj,Option.map_eq_some_iff] at hp hq;obtain⟨x,hx,rfl⟩:=hp;obtain⟨y,hy,rfl⟩:=hq;rw [hx] at hy; cases hy;exact⟨rfl,hf.ev _⟩) (by simp) (fun j u v hu hv=>by
      simp only [Pj,Option.map_eq_some_iff] at hu;obtain⟨x,hx,rfl⟩:=hu;simp [hx] at hv; subst hv; exact .sc)
     refine⟨.agg vs',?_,.agg e2 e3⟩;simp [execOp,ho,Instr.build,zeroValue,typeInfo,h1,h2,run_underlying hu,Q8 hE w,hz,e1]
  .cases hT
theorem Ha7 {m x:Operand} {T K E i:Nat} {lst:List (B×Z)} {a:B} (z0:Z) (zv:Value) (ho:o.op=.lookup T m x false) (hm:ev l m=.mp i) (hi:lk L i=some (.map T (mapOf kv av (nR lst a z0)))) (hn:(lst.map (·.1)).Nodup)
  (hx:ev l x=bE (kv a)) (hk:pG P K kv) (hT:fD P T K E=true) (hz:(P.info? E).bind (·.zero)=some zv) (h0:av z0=bE zv) :
  Gy P o l L (Is (av ((iA lst a).getD z0)) L):=by
 have h:=G8d (L:=L) z0 zv ho hm hi (J08 hn a z0) hx hk hT hz h0;rw [J72] at h;exact h
end
open Go.RowKit
set_option linter.unusedVariables false
set_option linter.unusedSimpArgs false

/-! ### The cells of a box, one by one -/
def uK (ok:Nat->Bool):AD->AD->Prop
 | [],[]=>True
 | u::r,u'::r'=>Conv ok u u'/\uK ok r r'
 | _,_=>False
theorem uK.length {ok:Nat->Bool}:∀ {cs cs':AD},uK ok cs cs'->cs.length=cs'.length
 | [],[],_=>rfl
 | _::_,_::_,h=>by simp [uK.length h.2]
 | [],_::_,h=>h.elim
 | _::_,[],h=>h.elim
theorem uK.get {ok:Nat->Bool}:∀ {cs cs':AD},uK ok cs cs'->∀ (j:Nat) u u',cs[j]? = some u->cs'[j]? = some u'->Conv ok u u'
 | u::r,u'::r',h,0,x,x',hx,h0=>by simp at hx h0; subst hx; subst h0; exact h.1
 | u::r,u'::r',h,j+1,x,x',hx,h0=>by simp at hx h0; exact uK.get h.2 j x x' hx h0
 | [],[],_,j,_,_,hx,_=>by simp at hx
 | [],_::_,h,_,_,_,_,_=>h.elim
 | _::_,[],h,_,_,_,_,_=>h.elim
theorem uK.sm {ok:Nat->Bool}:∀ {us us':AD},us=us'->us'.all (fun u=>u.refs ok)=true->uK ok us us'
 | [],_,rfl,_=>trivial
 | u::r,_,rfl,h=>by
  rw [List.all_cons,Pp] at h;exact⟨.same h.1,uK.sm rfl h.2⟩
variable {ok:Nat->Bool}
theorem uK.q {us us':AD} (h:us=us':=by rfl) (h2:us'.all (fun u=>u.refs ok)=true:=by rfl):uK ok us us':=.sm h h2
def looks (l:Fr):Fr->AD
 | []=>[]
 | (t,_)::r=>look l t::looks l r
def vals:Fr->AD
 | []=>[]
 | (_,u)::r=>u::vals r
theorem lE.sm {ok:Nat->Bool} {l:Fr}:∀ {l':Fr},looks l l'=vals l'->(vals l').all (fun u=>u.refs ok)=true->lE ok l l'
 | [],_,_=>trivial
 | (t,u)::r,h,h2=>by
  have h':look l t::looks l r=u::vals r:=h;have h0:(u::vals r).all (fun u=>u.refs ok)=true:=h2;rw [List.all_cons,Pp] at h0;injection h' with e1 e2;exact⟨.eq e1 h0.1,lE.sm e2 h0.2⟩
variable {l:Fr}
theorem lE.q {l':Fr} (h:looks l l'=vals l':=by rfl) (h2:(vals l').all (fun u=>u.refs ok)=true:=by rfl):lE ok l l':=.sm h h2
variable {cs cs':AD}
theorem kC.boxL {o:Jb} {t:Nat} (ho:o=.box t cs) (h:uK ok cs cs'):kC ok o (.box t cs'):=by
 subst ho; exact .box h.length h.get

/-! ### A nil slice in a box that is going to be appended to -/
variable {L:Loc} {i:Nat}
theorem fmQ {t:Nat} {es:List (Value×AV)} (h:lk L i=some (.map t es)):∃ o,lk L i=some o/\kC ok o (.map t es):=⟨_,h,.map⟩
theorem fbQ {t:Nat} {cs1:AD} (h:lk L i=some (.box t cs)) (hc:uK ok cs cs1):∃ o,lk L i=some o/\kC ok o (.box t cs1):=⟨_,h,.boxL rfl hc⟩
variable {U:Gx} {w:World}
theorem pU (E k:Nat) (hi:lk L i=none):Step w U L w (upP U i none) ((i,.spare E k 0 0)::L):=by
 have h1:∀ id,(lk L id).isSome=true->i≠id:=fun id h e=>by subst e; rw [hi] at h; cases h
 refine⟨rfl,rfl,⟨rfl,Pf⟩,Pf,fun _ _ _=>Iff.rfl,fun b j hs=>⟨⟨hs.lt,hs.seen,fun id ob hid hb=>?_⟩,rfl⟩,fun b hb h0=>⟨rfl,fun id hid e=>?_⟩,fun id t cs hid=>?_,fun id t cs hid=>?_,fun id t n cs hid=>?_,fun id t k' ver xs hid=>?_,fun id t k' ver hw hid=>?_⟩
 .rw [Ge] at hid;by_cases e:i=id
  .subst e; simp [upP] at hb
  .rw [if_neg e] at hid; simp only [upP,if_neg (Ne.symm e)] at hb; exact hs.kept id ob hid hb
 .rw [Ge] at hid;by_cases e':i=id
  .subst e'; simp [upP] at e
  .rw [if_neg e'] at hid; simp only [upP,if_neg (Ne.symm e')] at e; exact h0 id hid e
 all_goals
  have e:=h1 id (by rw [hid]; rfl)
 .exact⟨by simp [upP,Ne.symm e],cs,by rw [Ge,if_neg e]; exact hid⟩
 .exact⟨by simp [upP,Ne.symm e],cs,by rw [Ge,if_neg e]; exact hid⟩
 .exact⟨by simp [upP,Ne.symm e],n,cs,by rw [Ge,if_neg e]; exact hid⟩
 .exact⟨ver,xs,by rw [Ge,if_neg e]; exact hid,Pf,fun _=>⟨rfl,by simp [upP,Ne.symm e],fun _ _=>rfl⟩⟩
 .exact⟨ver,hw,by rw [Ge,if_neg e]; exact hid,Pf,fun _=>⟨rfl,by simp [upP,Ne.symm e],fun _ _=>rfl⟩⟩
theorem RF (E k:Nat) (h0:Sat w U L) (hi:lk L i=none):Sat w (upP U i none) ((i,.spare E k 0 0)::L):=by
 refine⟨h0.hid,fun id b hid hb=>?_,fun id b j hid hb=>?_,fun id id' b h1 h2 h3 h4=>?_,fun id ob hid=>?_⟩
 .rw [Ge] at hid;by_cases e:i=id
  .subst e; simp [upP] at hb
  .rw [if_neg e] at hid; simp only [upP,if_neg (Ne.symm e)] at hb; exact h0.bnd id b hid hb
 .rw [Ge] at hid;by_cases e:i=id
  .subst e; simp [upP] at hb
  .rw [if_neg e] at hid; simp only [upP,if_neg (Ne.symm e)] at hb; exact h0.apart id b j hid hb
 .by_cases e:i=id
  .subst e; simp [upP] at h3
  .by_cases e':i=id'
   .subst e'; simp [upP] at h4
   .rw [Ge,if_neg e] at h1;rw [Ge,if_neg e'] at h2;simp only [upP,if_neg (Ne.symm e)] at h3;simp only [upP,if_neg (Ne.symm e')] at h4;exact h0.inj id id' b h1 h2 h3 h4
 .rw [Ge] at hid;by_cases e:i=id
  .subst e; simp at hid; subst hid; exact .inl ⟨by simp [upP],rfl⟩
  .rw [if_neg e] at hid;simp only [upP,if_neg (Ne.symm e)];exact(h0.obj id ob hid).step (pU E k hi) (fun b hb=>rfl)
theorem Q22 (E k:Nat):V w (upP U i none) ((i,.spare E k 0 0)::L) (.own i 0 k []) (.slice none 0 0):=
 .own (.nil (Nat.zero_le _)) ⟨E,0,0,by rw [Ge,if_pos rfl],Pf,fun _=>⟨rfl,by simp [Value.ownBlock,upP],[],⟨by simp,.inl ⟨rfl,rfl⟩⟩,fun j u hu=>by simp [flat] at hu⟩⟩

variable {a:Act} {N:Cfg} {U0:Gx} {L0:Loc} {t:TypeId} {w0:World}
theorem Qn.redescribeB (hs:Qn N w0 U0 L0 a w U l L) (hi:lk L i=some (.box t cs)) (hl:cs.length=cs'.length)
  (h:∀ (vs:Array Value) (j:Nat) u v,(∃ b,U i=some b/\w.heap[b]? = some (.cells vs t (0,0)))->(∀ (j:Nat) u v,cs[j]? = some u->vs[j]? = some v->V w U L u v)->vs.size=cs.length->cs'[j]? = some u->vs[j]? = some v->V w U L u v):Qn N w0 U0 L0 a w U l ((i,.box t cs')::L):=by
 obtain⟨b,hb,vs,h7,h8,h9⟩:=hs.sat.obj i _ hi;have h0:∀ id,(lk ((i,Jb.box t cs')::L) id).isSome=(lk L id).isSome:=fun id=>by
  rw [Ge]; split
  .rename_i e; subst e; rw [hi]; rfl
  .rfl
 have h6:∀ b j,Hs w U L b j->Hs w U ((i,.box t cs')::L) b j:=fun b j h5=>⟨h5.lt,h5.seen,fun id o ho hb=>by
  rw [Ge] at ho;split at ho
  .rename_i e; subst e; cases ho; exact(h5.kept i _ hi hb).elim
  .exact h5.kept id o ho hb⟩
 have st:Step w U L w U ((i,.box t cs')::L):=by
  refine⟨rfl,rfl,⟨rfl,Pf⟩,Pf,fun _ _ _=>Iff.rfl,fun b j h=>⟨h6 b j h,rfl⟩,fun b hb hf=>⟨rfl,fun id hid e=>hf id (by rw [<- h0 id]; exact hid) e⟩,fun id t2 cs2 hid=>?_,fun id t2 cs2 hid=>?_,fun id m n es hid=>?_,fun id t2 k2 ver xs hid=>?_,fun id t2 k2 ver hw hid=>?_⟩
  .refine⟨rfl,?_⟩;rw [Ge]; split
   .rename_i e; subst e; rw [hi] at hid; cases hid; exact⟨_,rfl⟩
   .exact⟨_,hid⟩
  .refine⟨rfl,cs2,?_⟩;rw [Ge,if_neg (fun e=>by subst e; rw [hi] at hid; cases hid)]; exact hid
  .refine⟨rfl,n,es,?_⟩;rw [Ge,if_neg (fun e=>by subst e; rw [hi] at hid; cases hid)]; exact hid
  .refine⟨ver,xs,?_,Pf,fun _=>⟨rfl,rfl,fun _ _=>rfl⟩⟩;rw [Ge,if_neg (fun e=>by subst e; rw [hi] at hid; cases hid)]; exact hid
  .refine⟨ver,hw,?_,Pf,fun _=>⟨rfl,rfl,fun _ _=>rfl⟩⟩;rw [Ge,if_neg (fun e=>by subst e; rw [hi] at hid; cases hid)]; exact hid
 refine⟨⟨hs.sat.hid,fun id b h1 h2=>hs.sat.bnd id b (by rw [<- h0 id]; exact h1) h2,fun id b j h1 h2=>hs.sat.apart id b j (by rw [<- h0 id]; exact h1) h2,fun id id' b h1 h2 h3 h4=>hs.sat.inj id id' b (by rw [<- h0 id]; exact h1) (by rw [<- h0 id']; exact h2) h3 h4,fun id o ho=>?_⟩,hs.step.trans st,hs.frame.step st,hs.size,hs.base,hs.defers.step st⟩;rw [Ge] at ho;split at ho
 .rename_i e; subst e; cases ho;exact⟨b,hb,vs,h7,by omega,fun j u v hu hv=>(h vs j u v ⟨b,hb,h7⟩ h9 h8 hu hv).step st⟩
 .exact(hs.sat.obj id o ho).step st (fun b hb=>rfl)

theorem Qn.redescribe (hs:Qn N w0 U0 L0 a w U l L) (hi:lk L i=some (.box t cs)) (hl:cs.length=cs'.length)
  (h:∀ (vs:Array Value) (j:Nat) u v,(∀ (j:Nat) u v,cs[j]? = some u->vs[j]? = some v->V w U L u v)->vs.size=cs.length->cs'[j]? = some u->vs[j]? = some v->V w U L u v):Qn N w0 U0 L0 a w U l ((i,.box t cs')::L):=
 hs.redescribeB hi hl (fun vs j u v _=>h vs j u v)

theorem Qn.ownCell (hs:Qn N w0 U0 L0 a w U l L) (i j id E k:Nat) (hi:lk L i=some (.box t cs)) (hid:lk L id=none) (hj:cs[j]? = some (.sc (.slice none 0 0)))
  (h2:cs.set j (.own id 0 k [])=cs'):∃ U',Qn N w0 U0 L0 a w U' l ((i,.box t cs')::(id,.spare E k 0 0)::L):=by
 have st:=pU (w:=w) (U:=U) E k hid;have h1:Qn N w0 U0 L0 a w (upP U id none) l ((id,.spare E k 0 0)::L):=⟨RF E k hs.sat hid,hs.step.trans st,hs.frame.step st,hs.size,hs.base,hs.defers.step st⟩;have h3:id≠i:=fun e=>by subst e; rw [hi] at hid; cases hid
 refine⟨_,h1.redescribe (i:=i) (t:=t) (cs:=cs) (by rw [Ge,if_neg h3]; exact hi) (by rw [<- h2]; simp) fun vs q u v h0 h5 hu hv=>?_⟩;rw [<- h2] at hu;by_cases e:j=q
 .subst e;have h4:j < cs.length:=(Pa hj).1;simp [List.getElem?_set,h4] at hu;subst hu;have:=h0 j _ v hj hv;rw [this.inv_sc];exact Q22 E k
 .rw [List.getElem?_set_ne e] at hu;exact h0 q u v hu hv
theorem wC {P:Program} {ops:Array Oper} {rest:AM} {Q:Post} (i j id E k:Nat) (hi:lk L i=some (.box t cs)) (hid:lk L id=none) (hj:cs[j]? = some (.sc (.slice none 0 0)))
  (h0:cs.set j (.own id 0 k [])=cs') (hk:JL P N ops rest Q l ((i,.box t cs')::(id,.spare E k 0 0)::L)):JL P N ops rest Q l L:=
 fun n w0 U0 L0 a w U hs=>by
  obtain⟨U',h⟩:=hs.ownCell i j id E k hi hid hj h0;exact hk n w0 U0 L0 a w U' h

/-! ### Zero values whose slices are seen aQ empty lists -/
def ZOk:AD->AK->Prop
 | [],[]=>True
 | u::r,v::s=>(u=.sc v\/∃ k,u=.list k []/\v=.slice none 0 0)/\ZOk r s
 | _,_=>False
theorem zzQ:∀ {us:AD} {vs:AK},us=vs.map .sc->ZOk us vs
  | _,[],h=>by subst h; trivial
  | _,v::r,h=>by subst h; exact⟨.inl rfl,zzQ rfl⟩
theorem ZOk.length:∀ {us:AD} {vs:AK},ZOk us vs->us.length=vs.length
 | [],[],_=>rfl
 | _::_,_::_,h=>by simp [ZOk.length h.2]
 | [],_::_,h=>h.elim
 | _::_,[],h=>h.elim
theorem ZOk.get {w:World} {U:Gx} {L:Loc}:∀ {us:AD} {vs:AK},ZOk us vs->∀ (j:Nat) u v,us[j]? = some u->vs[j]? = some v->V w U L u v
 | u::r,v::s,h,0,x,y,hx,hy=>by
  simp at hx hy; subst hx; subst hy;rcases h.1 with h | ⟨k,h1,h2⟩
  .subst h; exact .sc
  .subst h1; subst h2; exact .data (.nil (Nat.zero_le _))
 | u::r,v::s,h,j+1,x,y,hx,hy=>by simp at hx hy; exact ZOk.get h.2 j x y hx hy
 | [],[],_,j,_,_,hx,_=>by simp at hx
 | [],_::_,h,_,_,_,_,_=>h.elim
 | _::_,[],h,_,_,_,_,_=>h.elim
section
variable {P:Program} {o:Oper} {l:Fr} {L:Loc}
theorem Qo (i:Nat) {T:Nat} (us:AD) (zs:AK) (hz:(P.info? T).bind (fun i=>i.zero.map Value.cells)=some zs.toArray) (hu:ZOk us zs) (ho:o.op=.alloc T) (hi:lk L i=none) :
  Gy P o l L (Is (.ptr i 0) ((i,.box T us)::L)):=by
 intro a w U K Q h0 hf hK;cases h1:P.info? T with
 | none=>rw [h1] at hz; simp at hz
 | some inf=>
  rw [h1] at hz;cases h2:inf.zero with
  | none=>simp [h2] at hz
  | some z=>
   simp only [Option.bind_some,h2,Option.map_some,Option.some.injEq] at hz;unfold Oper.wp;have hr:(execOp a.eval o).run P w=.ok (.value (.pointer (some ⟨w.heap.size,0,none⟩))) (w.alloc (.cells z.cells T)):=by
    simp [execOp,ho,Instr.alloc,zeroValue,typeInfo,h1,h2,newVar,newRow]
   rw [hr];refine hK _ _ _ _ (upP U i (some w.heap.size)) ⟨rfl,rfl⟩ (h0.alloc hi _ (fun hs=>⟨_,rfl,z.cells,heap_alloc_new w _,by simp [hz,hu.length],fun j u v hj hv=>?_⟩)) (Step.alloc hi h0.bnd _) (.ptr (t:=T) (cs:=us) (by simp [Ge]) (by simp [upP]));rw [hz] at hv;exact hu.get j u v hj (by simpa using hv)
theorem Jf {T:TypeId} {parts:List (Nat×Operand)} {cs:AD} (pl:List (Nat×Nat)) (us:AD) (zs:AK) (h0:placesOf P T=some pl) (hz:(P.info? T).bind (fun i=>i.zero.map Value.cells)=some zs.toArray) (hu:ZOk us zs) (ho:o.op=.build T parts.toArray) (h3:tE (fun i=>pl[i]?) us (parts.map fun p=>(p.1,ev l p.2))=some cs):Gy P o l L (Is (.agg cs) L):=
 Hj fun a w U _ hf=>by
  cases h1:P.info? T with
  | none=>rw [h1] at hz; simp at hz
  | some inf=>
   rw [h1] at hz;cases h2:inf.zero with
   | none=>simp [h2] at hz
   | some z=>
    simp only [Option.bind_some,h2,Option.map_some,Option.some.injEq] at hz;unfold placesOf at h0;split at h0
    .rename_i fs h4;have h5:=run_places (P:=P) (w:=w) fs.toList pl h0;obtain⟨vs',e1,e2,e3⟩:=nK (w:=w) (U:=U) (L:=L) (qs:=parts.map fun p=>(p.1,a.eval p.2)) (vs:=zs.toArray) h3 (by simp) (fun j p q hp hq=>by
      simp only [Pj,Option.map_eq_some_iff] at hp hq;obtain⟨x,hx,rfl⟩:=hp;obtain⟨y,hy,rfl⟩:=hq;rw [hx] at hy; cases hy;exact⟨rfl,hf.ev _⟩) (by simp [hu.length]) (fun j u v hj hv=>hu.get j u v hj (by simpa using hv))
     refine⟨.agg vs',?_,.agg e2 e3⟩;have hm:(fs.mapM (fun f=>Prod.mk f.offset <$> sizeOf f.type:Field->Sem (Nat×Nat))).run P w=.ok pl.toArray w:=by
      rw [<- Array.toArray_toList (xs:=fs),List.mapM_toArray];simp only [Sem.run_map,h5,Result.andThen_ok]
     simp [execOp,ho,Instr.build,zeroValue,typeInfo,h1,h2,underlying,h4,hm,hz,e1]
    .cases h0
end
/-! ### A result that lies in a variable -/
theorem ZI {P:Program} {T k b:Nat} {vs:Array Value} (hT:gQ P T k=true) (hv:w.heap[b]? = some (.cells vs t (0,0))) (hk:vs.size=k) :
  (loadVar T ⟨b,0,none⟩).run P w=.ok (.agg vs) w:=by
 have h1:=fA (P:=P) (T:=T) (k:=k) (b:=b) (o':=0) (vs:=vs.toList) hT (by simpa using hk) (w:=w) (fun j v h=>by
  simp at h;simp [World.cell?,hv,h])
 simpa [Instr.loadAt,Instr.sureAddr,asAddr] using h1
end Go.Proofs.YtbgfgnddogfpcaaGreat
