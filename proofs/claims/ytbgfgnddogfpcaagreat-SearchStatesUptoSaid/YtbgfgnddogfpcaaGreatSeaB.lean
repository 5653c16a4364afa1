/-
 All ways to pile GU up: The library's insertion sort,aQ the extractor's model has it The orders of search:
-/
import Derived.Test.YtbgfgnddogfpcaaGreatLiftT
import Derived.Test.YtbgfgnddogfpcaaGreatEnds
set_option maxRecDepth 100000
namespace Go.Proofs.YtbgfgnddogfpcaaGreat
open Go.RowKit

def shut (ts hs:AE) (c:Nat):Bool:=(hs.drop (c+1)).any (fun n=>decide (0 < n))||decide (ts.getD c 0<=hs.getD c 0)
def gT (ts:AE):Nat->AE->AE->List AG
 | 0,_,_=>[]
 | F+1,ids,hs=>bif ids.isEmpty then [[]] else
   (List.range ts.length).flatMap fun c=>bif shut ts hs c then [] else
    (List.range ids.length).flatMap fun i=>(gT ts F (ids.eraseIdx i) (hs.set c (hs.getD c 0+1))).map fun r=>(⟨ids.getD i 0,⟨(c:Int),hs.getD c 0,0⟩⟩:G2)::r
theorem Gde {ts:AE}:∀ {F:Nat} {ids hs:AE} {r:AG},ids.length < F->r∈gT ts F ids hs->r.length=ids.length
 | F+1,ids,hs,r,hF,hr=>by
  unfold gT at hr;cases ids with
  | nil=>simp at hr; subst hr; rfl
  | cons a l=>
   simp only [List.isEmpty_cons,cond_false,List.mem_flatMap,List.mem_range] at hr;obtain⟨c,hc,hr⟩:=hr;cases h0:shut ts hs c with
   | true=>rw [h0] at hr; simp at hr
   | false=>
    rw [h0] at hr;simp only [cond_false,List.mem_flatMap,List.mem_range,Pt] at hr;obtain⟨i,hi,q,hq,rfl⟩:=hr;have hl:((a::l).eraseIdx i).length=l.length:=by rw [List.length_eraseIdx_of_lt (by simpa using hi)]; simp
    have:=Gde (F:=F) (by rw [hl]; simp at hF; omega) hq;rw [Pi,this,hl,Pi]
theorem H08 (l:AE) (p:Int->Bool) (f:Int->Option Bool) (hf:∀ x∈l,f x=some (p x)):Rv l f=some (l.any p):=by
 unfold Rv cM;rw [xW hf,jJ,xU]
variable {W:Type}
theorem G4e (f:Nat->List W) (n:Nat):(List.range (n+1)).flatMap f=(List.range n).flatMap f++f n:=by
 rw [List.range_succ,List.flatMap_append]; simp

theorem Gdd (s:Gf):∀ (F:Nat) (ids hs:AE),hs.length=s.Columns.length->s.Columns.length<=1000->(∀ h∈hs,0<=h/\h+(ids.length:Int)<=1000)->ids.length < F->ids.length<=1000->dW F ids s hs=some (gT (s.Columns.map (·.AC)) F ids hs):=by
 intro F
 induction F with
 | zero=>intro ids hs h1 h2 h3 h4; omega
 | succ F ih=>
  intro ids hs h1 h2 h3 h4 h5;show eD (dW F) ids s hs=_
  refine Zs ?_;unfold eD gT;cases ids with
  | nil=>exact Gt
  | cons a l=>
   obtain⟨ids,h0⟩:∃ ids,a::l=ids:=⟨_,rfl⟩;have b0:ids.isEmpty=false:=by rw [<- h0]; rfl
   have b5:0 < ids.length:=by rw [<- h0]; simp
   rw [h0] at h3 h4 h5 ⊢;rw [b0,cond_false];refine Ja (fun e=>by have:=P6 e; omega) (fun _=>?_);rw [Pr];refine Q6 (fun pre s7=>s7=(List.range pre.length).flatMap fun c=>bif shut (s.Columns.map (·.AC)) hs c then [] else
    (List.range ids.length).flatMap fun i=>(gT (s.Columns.map (·.AC)) F (ids.eraseIdx i) (hs.set c (hs.getD c 0+1))).map fun r=>(⟨ids.getD i 0,⟨(c:Int),hs.getD c 0,0⟩⟩:G2)::r)
    rfl (fun pre y post s7 nx e hI b1=>?_) (fun s7 hI=>Gt hI)
   have b6:pre.length < s.Columns.length:=by rw [e]; simp
   have hc:pre.length < hs.length:=by omega
   have a2:hs.getD pre.length 0=hs[pre.length]:=by simp [List.getD,hc]
   have b2:(s.Columns.map (·.AC)).getD pre.length 0=y.AC:=by
    have:s.Columns[pre.length]? = some y:=by rw [e]; simp
    simp [List.getD,this]
   have hh:=h3 _ (List.getElem_mem hc);refine oM (fun s'=>s'=(List.range (pre++[y]).length).flatMap fun c=>bif shut (s.Columns.map (·.AC)) hs c then [] else
    (List.range ids.length).flatMap fun i=>(gT (s.Columns.map (·.AC)) F (ids.eraseIdx i) (hs.set c (hs.getD c 0+1))).map fun r=>(⟨ids.getD i 0,⟨(c:Int),hs.getD c 0,0⟩⟩:G2)::r) (fun K hK=>?_) (fun s' b3=>b1 s' b3)
   rw [Pn,Po] at hK;simp only [G4e] at hK;refine Hq (HS (m:=pre.length+1) rfl (by omega) ?_);refine H2 (H08 _ (fun n=>decide (0 < n)) _ (fun x _=>rfl)) ?_;have h6:shut (s.Columns.map (·.AC)) hs pre.length=((hs.drop (pre.length+1)).any (fun n=>decide (0 < n))||decide (y.AC<=hs[pre.length])):=by
    unfold shut; rw [a2,b2]
   have a3:shut (s.Columns.map (·.AC)) hs pre.length=true->Wp (K s7) (fun r=>r=(List.range s.Columns.length).flatMap fun c=>bif shut (s.Columns.map (·.AC)) hs c then [] else
    (List.range ids.length).flatMap fun i=>(gT (s.Columns.map (·.AC)) F (ids.eraseIdx i) (hs.set c (hs.getD c 0+1))).map fun r=>(⟨ids.getD i 0,⟨(c:Int),hs.getD c 0,0⟩⟩:G2)::r):=fun h=>hK _ (by rw [h,cond_true,List.append_nil]; exact hI)
   cases h7:(hs.drop (pre.length+1)).any (fun n=>decide (0 < n)) with
   | true=>
    simp only [Bool.not_true,cond_false,Bool.true_or,cond_true];exact Hq (Gt (a3 (by rw [h6,h7]; rfl)))
   | false=>
    simp only [Bool.not_false,cond_true,Bool.false_or];refine Hq (fO (m:=pre.length) rfl (Pb hc) (Gt ?_));refine Ja (fun ht=>a3 (by rw [h6,ht,Bool.or_true])) (fun ht=>?_);have a4:shut (s.Columns.map (·.AC)) hs pre.length=false:=by rw [h6,h7,ht]; rfl
    refine Q6 (fun done s68=>s68=s7++(List.range done.length).flatMap fun i=>(gT (s.Columns.map (·.AC)) F (ids.eraseIdx i) (hs.set pre.length (hs.getD pre.length 0+1))).map fun r=>(⟨ids.getD i 0,⟨(pre.length:Int),hs.getD pre.length 0,0⟩⟩:G2)::r)
     (by simp) (fun done y68 rest s68 nx2 e2 h8 a5=>?_) (fun s68 h8=>hK _ (by rw [h8,a4,cond_false,hI]))
    have b4:done.length < ids.length:=by rw [e2]; simp
    have a6:ids.getD done.length 0=y68:=by
     have:ids[done.length]? = some y68:=by rw [e2]; simp
     simp [List.getD,this]
    have h9:(ids.eraseIdx done.length).length=ids.length - 1:=List.length_eraseIdx_of_lt b4;refine fO (m:=pre.length) rfl (Pb hc) ?_;refine H2 (G02 hs (by omega)) (fO (m:=pre.length) rfl (Pb hc) (bW ⟨by omega,by omega⟩ (fO (m:=pre.length) rfl (Pb hc) ?_)));refine H2 (G02 ids (by omega)) ?_;refine H2 (x:=ids.eraseIdx done.length) ?_ ?_
    .unfold cE;rw [P8 (by omega:(0:Int)<=(done.length:Int)),P8 (by omega:(done.length:Int) < (ids.length:Int)),P8 (by push_cast; omega:((done.length+1:Nat):Int)=(done.length:Int)+1),P8 (by omega:ids.length<=100000)];simp
    refine H2 (x:=()) rfl ?_;rw [Int.toNat_natCast];have a7:∀ h∈hs.set pre.length (hs[pre.length]+1),0<=h/\h+((ids.eraseIdx done.length).length:Int)<=1000:=fun h hm=>by
     rw [h9];rcases List.mem_or_eq_of_mem_set hm with hm | rfl
     .have:=h3 h hm; omega
     .omega
    have a8:=ih (ids.eraseIdx done.length) (hs.set pre.length (hs[pre.length]+1)) (by rw [List.length_set]; exact h1) h2 a7 (by omega) (by omega);refine H2 a8 ?_;refine Q6 (fun got s88=>s88=s68++got.map fun r=>(⟨y68,⟨(pre.length:Int),hs[pre.length],0⟩⟩:G2)::r) (by simp) (fun got y88 rest3 s88 nx3 e3 a0 a9=>?_) (fun s88 a0=>a5 _ ?_)
    .have hm:y88∈gT (s.Columns.map (·.AC)) F (ids.eraseIdx done.length) (hs.set pre.length (hs[pre.length]+1)):=by rw [e3]; simp
     have a1:=Gde (by omega) hm;refine Yt (P8 ⟨?_,?_⟩) (a9 _ ?_)
     .rw [Po,a1,h9]; omega
     .rw [Po,a1,h9]; exact Nat.le_trans (by omega:1+(ids.length - 1)<=1001) (by decide)
     .rw [a0]; simp
    .rw [a0,h8,Pn,Po,G4e,a6,a2,List.append_assoc]
set_option linter.unusedVariables false

section isort
variable {W:Type}
def RP (c:W->W->Int) (x:W):List W->List W->List W
 | [],mid=>x::mid
 | p::rp,mid=>if c x p < 0 then RP c x rp (p::mid) else (p::rp).reverse++x::mid
def tD (c:W->W->Int):List W->List W->List W
 | d,[]=>d
 | d,x::t=>tD c (RP c x d.reverse []) t
def vR (c:W->W->Int) (l:List W):List W:=tD c [] l

theorem RN (c:W->W->Int) (x:W):∀ (rp mid:List W),(RP c x rp mid).Perm (rp.reverse++x::mid)
 | [],mid=>.refl _
 | p::rp,mid=>by
  unfold RP;split
  .refine(RN c x rp (p::mid)).trans ?_;rw [List.reverse_cons,List.append_assoc];refine List.Perm.append_left _ ?_;exact List.Perm.swap p x mid
  .exact .refl _
theorem ZT (c:W->W->Int):∀ (t d:List W),(tD c d t).Perm (d++t)
 | [],d=>by rw [List.append_nil]; exact .refl _
 | x::t,d=>by
  unfold tD;refine(ZT c t _).trans ?_;have h:=RN c x d.reverse [];rw [List.reverse_reverse] at h;refine(h.append_right t).trans ?_;simp
theorem bU (c:W->W->Int) (l:List W):(vR c l).Perm l:=ZT c l []
theorem G5b {c:W->W->Int} {l:List W} {x:W}:x∈vR c l ↔ x∈l:=(bU c l).mem_iff
theorem ZS (c:W->W->Int) (l:List W):(vR c l).length=l.length:=(bU c l).length_eq

structure J18 (c:W->W->Int):Prop where
 asym:∀ x y,c x y < 0->¬ c y x < 0
 ntrans:∀ x y z,¬ c y x < 0->¬ c z y < 0->¬ c z x < 0
abbrev G0a (c:W->W->Int) (x y:W):Prop:=¬ c y x < 0

theorem ZW {c:W->W->Int} (hc:J18 c) (x:W):∀ (rp mid:List W),(rp.reverse++mid).Pairwise (G0a c)->(∀ y∈mid,c x y < 0)->(RP c x rp mid).Pairwise (G0a c)
 | [],mid,h,hm=>by
  unfold RP;exact List.pairwise_cons.2 ⟨fun y hy=>hc.asym _ _ (hm y hy),h⟩
 | p::rp,mid,h,hm=>by
  unfold RP;split
  .rename_i h0;refine ZW hc x rp (p::mid) ?_ ?_
   .rw [List.reverse_cons,List.append_assoc] at h; exact h
   .intro y hy;rcases Pv.1 hy with rfl | hy
    .exact h0
    .exact hm y hy
  .rename_i h0;rw [List.pairwise_append] at h ⊢;refine⟨h.1,List.pairwise_cons.2 ⟨fun y hy=>hc.asym _ _ (hm y hy),h.2.1⟩,fun a ha b hb=>?_⟩;rcases Pv.1 hb with rfl | hb
   .have h2:G0a c a p:=by
     rw [List.reverse_cons,List.pairwise_append] at h;rw [List.reverse_cons] at ha;rcases Ps.1 ha with ha | ha
     .exact h.1.2.2 a ha p (by simp)
     .have:a=p:=by simpa using ha
      subst this;intro h1;exact hc.asym _ _ h1 h1
    exact hc.ntrans _ _ _ h2 h0
   .exact h.2.2 a ha b hb
theorem zQ {c:W->W->Int} (hc:J18 c):∀ (t d:List W),d.Pairwise (G0a c)->(tD c d t).Pairwise (G0a c)
 | [],_,h=>h
 | x::t,d,h=>by
  unfold tD;exact zQ hc t _ (ZW hc x _ _ (by rw [List.reverse_reverse,List.append_nil]; exact h) (fun y hy=>by cases hy))
theorem cT {c:W->W->Int} (hc:J18 c) (l:List W):(vR c l).Pairwise (G0a c):=zQ hc l [] .nil
theorem tF {U:Type} {z:Int} {k:Int->Option U} (h : -9223372036854775808<=z/\z<=9223372036854775807):chk z k=k z:=by
 unfold chk Gd8;rw [P8 h.1,P8 h.2]; rfl
theorem vS {U:Type} {l:List W} {i:Int} {k:W->Option U} {m:Nat} {x:W} (hi:i=(m:Int)) (hx:l[m]? = some x):Jw l i k=k x:=by
 subst hi;unfold Jw;rw [P8 (by omega:(0:Int)<=m),cond_true,show (m:Int).toNat=m by omega,hx];rfl

end isort

open Go.RowKit Go.Sort

variable {c:W->W->Int}
theorem Gf9 (hc:J18 c):SWO (ltOf c) where
 irrefl x:=by
  show decide (c x x < 0)=false
  exact P9 (fun h=>hc.asym x x h h)
 trans x y z h1 h2:=by
  have h1:c x y < 0:=P6 h1;have h2:c y z < 0:=P6 h2;refine P8 (Classical.byContradiction fun h=>?_);exact hc.ntrans y z x (hc.asym y z h2) h h1
 ntrans x y z h1 h2:=by
  have h1:¬ c x y < 0:=P7 h1;have h2:¬ c y z < 0:=P7 h2;exact P9 (hc.ntrans z y x h2 h1)
theorem Hfa [Inhabited W] {cmp:W->W->Option Int} (hc:J18 c) (h0:∀ a b,cmp a b=some (c a b)) {xs:List W} (hu:∀ a∈xs,∀ b∈xs,¬ c a b < 0->¬ c b a < 0->a=b) (hl:xs.length < 4611686018427387904):ZF cmp xs=some (vR c xs):=by
 rw [Ja2 c h0 (Gf9 hc) hl];obtain⟨hp,h5,hs⟩:=ZG c (Gf9 hc) xs;have h3:(bJ c xs).Perm (vR c xs):=hp.trans (bU c xs).symm;have h1:(bJ c xs).Pairwise (G0a c):=List.pairwise_iff_getElem.2 (fun i j hi hj h4=>P7 (hs i j h4 hj));have h2:=cT hc xs;congr 1;exact List.Perm.eq_of_pairwise (le:=G0a c) (fun a b ha hb h1 h2=>hu a (hp.mem_iff.1 ha) b ((bU c xs).mem_iff.1 hb) h2 h1) h1 h2 h3
def eK (a b:Int):Int:=bif decide (a < b) then -1 else bif decide (b < a) then 1 else 0
theorem J43 (a b:Int):aD a b=some (eK a b):=by
 have h1:decide (a≠a)=false:=by simp
 have h2:decide (b≠b)=false:=by simp
 simp only [aD,gC,bnd,h1,h2,cond_false];unfold eK;cases decide (a < b) <;> cases decide (b < a) <;> rfl
theorem Q95 (a b:Int):cG a b=some (eK a b):=by
 have h1:decide (a≠a)=false:=by simp
 have h2:decide (b≠b)=false:=by simp
 simp only [cG,dY,bnd,h1,h2,cond_false];unfold eK;cases decide (a < b) <;> cases decide (b < a) <;> rfl
def orI:AE->Int
 | []=>0
 | x::r=>bif decide (x≠0) then x else orI r
theorem Q96 (l:AE):lX l=some (orI l):=by
 unfold lX;have key:∀ (l:AE) (i:Nat),each (fun(y19:Int) (_:Nat) (_:Unit) nx19=>bif decide (y19≠0) then some y19 else nx19 ()) (fun(_:Unit)=>some (0:Int)) l i ()=some (orI l):=by
  intro l
  induction l with
  | nil=>intro i; rfl
  | cons x r ih=>
   intro i;rw [each,orI];cases decide (x≠0) with
   | true=>rfl
   | false=>exact ih _
 exact key l 0
def hU (a b:Slot):Int:=orI [eK a.G5 b.G5,eK a.AB b.AB,eK a.Half b.Half]
theorem Ja3 (a b:Slot):iL a b=some (hU a b):=by
 simp only [iL,J43,Q95,Q96,bnd]; rfl

structure Cmp {W:Type} (c:W->W->Int):Prop where
 anti:∀ x y,c y x = - c x y
 trans:∀ x y z,c x y<=0->c y z<=0->c x z<=0
theorem Cmp.ordc (h:Cmp c):J18 c:=
 ⟨fun x y h0 h4=>by have:=h.anti x y; omega,fun x y z h1 h2 h3=>by
  have a1:=h.anti x y;have a2:=h.anti y z;have a3:=h.anti x z;have:=h.trans x y z (by omega) (by omega);omega⟩
variable {x y:W}
theorem Cmp.strict (h:Cmp c) {z:W} (h1:c x y < 0) (h2:c y z<=0):c x z < 0:=by
 have t:=h.trans x y z (by omega) h2;rcases Int.lt_or_eq_of_le t with h' | h'
 .exact h'
 .have a:=h.anti x z;have:=h.trans y z x h2 (by omega);have b:=h.anti x y;omega
theorem Cmp.strict2 (h:Cmp c) {z:W} (h1:c x y<=0) (h2:c y z < 0):c x z < 0:=by
 have t:=h.trans x y z h1 (by omega);rcases Int.lt_or_eq_of_le t with h' | h'
 .exact h'
 .have a:=h.anti x z;have:=h.trans z x y (by omega) h1;have b:=h.anti y z;omega
theorem Cmp.refl (h:Cmp c) (x:W):c x x=0:=by have:=h.anti x x; omega
def G09 {W:Type} (c d:W->W->Int) (x y:W):Int:=bif decide (c x y≠0) then c x y else d x y
theorem Cmp.lex {d:W->W->Int} (hc:Cmp c) (hd:Cmp d):Cmp (G09 c d):=by
 refine⟨fun x y=>?_,fun x y z h1 h2=>?_⟩
 .unfold G09;have a:=hc.anti x y;have b:=hd.anti x y;by_cases h:c x y=0
  .have h':c y x=0:=by omega
   simp [h,h',b]
  .have h':c y x≠0:=by omega
   simp [h,h',a]
 .unfold G09 at h1 h2 ⊢;by_cases e1:c x y=0
  .by_cases e2:c y z=0
   .have t1:=hc.trans x y z (by omega) (by omega);have t2:=hc.trans z y x (by have:=hc.anti y z; omega) (by have:=hc.anti x y; omega);have a:=hc.anti x z;have e3:c x z=0:=by omega
    simp [e1] at h1;simp [e2] at h2;simp [e3];exact hd.trans x y z h1 h2
   .simp [e2] at h2;have:=hc.strict2 (x:=x) (y:=y) (z:=z) (by omega) (by omega);have e3:c x z≠0:=by omega
    simp [e3]; omega
  .simp [e1] at h1;by_cases e2:c y z=0
   .have:=hc.strict (x:=x) (y:=y) (z:=z) (by omega) (by omega);have e3:c x z≠0:=by omega
    simp [e3]; omega
   .simp [e2] at h2;have:=hc.strict (x:=x) (y:=y) (z:=z) (by omega) (by omega);have e3:c x z≠0:=by omega
    simp [e3]; omega
theorem Gd6 {d:W->W->Int} :G09 c d x y=0 ↔ c x y=0/\d x y=0:=by
 unfold G09;by_cases h:c x y=0 <;> simp [h]
variable {a b:Int}
theorem kG:eK a b < 0 ↔ a < b:=by
 unfold eK;by_cases h:a < b
 .simp [h]
 .by_cases h2:b < a <;> simp [h,h2]
theorem pM:eK a b=0 ↔ a=b:=by
 unfold eK;by_cases h:a < b
 .simp [h]; omega
 .by_cases h2:b < a
  .simp [h,h2]; omega
  .simp [h,h2]; omega
theorem G20:eK a b<=0 ↔ a<=b:=by
 unfold eK;by_cases h:a < b
 .simp [h]; omega
 .by_cases h2:b < a
  .simp [h,h2]
  .simp [h,h2]; omega
theorem JZ (f:W->Int):Cmp (fun x y:W=>eK (f x) (f y)):=
 ⟨fun x y=>by
  show eK (f y) (f x) = - eK (f x) (f y)
  unfold eK;by_cases h:f x < f y
  .have:¬ f y < f x:=by omega
   simp [h,this]
  .by_cases h2:f y < f x <;> simp [h,h2],fun x y z h1 h2=>G20.2 (by have:=G20.1 h1; have:=G20.1 h2; omega)⟩
theorem HY (a b:Slot):hU a b=G09 (fun x y:Slot=>eK x.G5 y.G5) (G09 (fun x y:Slot=>eK x.AB y.AB) (fun x y:Slot=>eK x.Half y.Half)) a b:=by
 unfold hU G09;simp only [orI];cases decide (eK a.G5 b.G5≠0) with
 | true=>rfl
 | false=>
  cases decide (eK a.AB b.AB≠0) with
  | true=>rfl
  | false=>
   simp only [cond_false];by_cases h:eK a.Half b.Half=0 <;> simp [h]
theorem pV:Cmp hU:=by
 have h:=(JZ (fun x:Slot=>x.G5)).lex ((JZ (fun x:Slot=>x.AB)).lex (JZ (fun x:Slot=>x.Half)));have e:hU=G09 (fun x y:Slot=>eK x.G5 y.G5) (G09 (fun x y:Slot=>eK x.AB y.AB) (fun x y:Slot=>eK x.Half y.Half)):=by funext a b; exact HY a b
 rw [e]; exact h
theorem Gca {a b:Slot}:hU a b=0 ↔ a=b:=by
 rw [HY,Gd6,Gd6];show eK a.G5 b.G5=0/\eK a.AB b.AB=0/\eK a.Half b.Half=0 ↔ a=b
 rw [pM,pM,pM];cases a; cases b; simp
def aG:AG->AG->Int
 | [],[]=>0
 | [],_::_ => -1
 | _::_,[]=>1
 | x::a,y::b=>bif decide (hU x.Slot y.Slot≠0) then hU x.Slot y.Slot else aG a b
theorem yX:∀ a b:AG,aG b a = - aG a b
 | [],[]=>rfl
 | [],_::_=>rfl
 | _::_,[]=>rfl
 | x::a,y::b=>by
  have h1:=pV.anti x.Slot y.Slot;have h2:=yX a b;unfold aG;by_cases h:hU x.Slot y.Slot=0
  .have h':hU y.Slot x.Slot=0:=by omega
   simp [h,h',h2]
  .have h':hU y.Slot x.Slot≠0:=by omega
   simp [h,h',h1]
theorem G58:∀ a b c:AG,aG a b<=0->aG b c<=0->aG a c<=0
 | [],_,[],_,_=>Int.le_refl _
 | [],_,_::_,_,_=>by simp [aG]
 | _::_,[],_,h,_=>by simp [aG] at h
 | _::_,_::_,[],_,h=>by simp [aG] at h
 | x::a,y::b,z::c,h1,h2=>by
  have ih:=G58 a b c;unfold aG at h1 h2 ⊢;by_cases e1:hU x.Slot y.Slot=0
  .have exy:=Gca.1 e1;simp [e1] at h1;by_cases e2:hU y.Slot z.Slot=0
   .have e3:hU x.Slot z.Slot=0:=by rw [exy]; exact e2
    simp [e2] at h2;simp [e3]; exact ih h1 h2
   .simp [e2] at h2;have e3:hU x.Slot z.Slot=hU y.Slot z.Slot:=by rw [exy]
    simp [e3,e2]; exact h2
  .simp [e1] at h1;have h0:hU x.Slot z.Slot < 0:=pV.strict (y:=y.Slot) (by omega) (by
    by_cases e2:hU y.Slot z.Slot=0
    .omega
    .simp [e2] at h2; exact h2)
   have e3:hU x.Slot z.Slot≠0:=by omega
   simp [e3]; omega
theorem fE:Cmp aG:=⟨yX,G58⟩
theorem RM:∀ {a b:AG},aG a b=0->a.map (·.Slot)=b.map (·.Slot)
 | [],[],_=>rfl
 | [],_::_,h=>by simp [aG] at h
 | _::_,[],h=>by simp [aG] at h
 | x::a,y::b,h=>by
  unfold aG at h;by_cases e:hU x.Slot y.Slot=0
  .simp [e] at h;rw [List.map_cons,List.map_cons,Gca.1 e,RM h]
  .simp [e] at h
theorem xY (a b:AG):Zp a b=some (aG a b):=by
 have key:∀ (q:AG) (n:Nat),each (fun(y38:G2) i38 (_:Unit) nx38=>
   bif decide ((b.length:Int)<=(i38:Int)) then (some (1:Int)) else
   (Jw b (i38:Int) fun y47=>bnd (Zb y38 y47) fun r50=>bif decide (r50≠0) then (some r50) else (nx38 ())))
  (fun(_:Unit)=>bif decide (((n+q.length:Nat):Int) < (b.length:Int)) then (some (-1)) else (some 0)) q n ()=if b.length < n then (if q=[] then some 0 else some 1) else some (aG q (b.drop n)):=by
  intro q
  induction q with
  | nil=>
   intro n;simp only [each,List.length_nil,Nat.add_zero];by_cases h:n < b.length
   .rw [P8 (by omega),cond_true,if_neg (by omega)];rw [List.drop_eq_getElem_cons h]; rfl
   .rw [P9 (by omega),cond_false];by_cases h':b.length < n
    .rw [if_pos h']; rfl
    .rw [if_neg h',List.drop_of_length_le (by omega)]; rfl
  | cons x q ih=>
   intro n;rw [each];by_cases h:n < b.length
   .rw [P9 (by omega),cond_false,if_neg (by omega),vS (m:=n) rfl (Pb h),List.drop_eq_getElem_cons h];have hs:Zb x b[n]=some (hU x.Slot b[n].Slot):=by unfold Zb; rw [Ja3]; rfl
    rw [hs,jJ];unfold aG;cases hd:decide (hU x.Slot b[n].Slot≠0) with
    | true=>rfl
    | false=>
     rw [cond_false,cond_false];have:=ih (n+1);rw [if_neg (by omega)] at this;rw [show n+(x::q).length=n+1+q.length by simp; omega];exact this
   .rw [P8 (by omega),cond_true];by_cases h':b.length < n
    .rw [if_pos h',if_neg (by simp)]
    .rw [if_neg h',List.drop_of_length_le (by omega)]; rfl
 unfold Zp Yk;have:=key a 0;rw [if_neg (by omega),List.drop_zero,Nat.zero_add] at this;exact congrArg (fun o:Option Int=>bnd o fun r3=>some r3) this
end Go.Proofs.YtbgfgnddogfpcaaGreat
