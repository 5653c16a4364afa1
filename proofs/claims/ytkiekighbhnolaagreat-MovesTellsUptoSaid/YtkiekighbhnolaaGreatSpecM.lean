/- What moves.part and moves.Tasks return: -/
import Derived.Test.YtkiekighbhnolaaGreatXS
import Derived.Test.YtkiekighbhnolaaGreatWp
import Derived.Test.YtkiekighbhnolaaGreatWp
set_option maxRecDepth 100000
set_option linter.unusedVariables false
namespace Go.Proofs.YtkiekighbhnolaaGreat
open Go.RowKit Go.Sort

theorem Q3a {J:Type} {c:J->J->Int} (hc:Gf7 c):SWO (ltOf c) where
 irrefl x:=by
  show decide (c x x < 0)=false
  exact Pt (fun h=>hc.asym x x h h)
 trans x y z h1 h2:=by
  have h1:c x y < 0:=Pq h1;have h2:c y z < 0:=Pq h2;refine Ps (Classical.byContradiction fun h=>?_);exact hc.ntrans y z x (hc.asym y z h2) h h1
 ntrans x y z h1 h2:=by
  have h1:¬ c x y < 0:=Pr h1;have h2:¬ c y z < 0:=Pr h2;exact Pt (hc.ntrans z y x h2 h1)
theorem Gcf {J:Type} [Inhabited J] {cmp:J->J->Option Int} {c:J->J->Int} (hc:Gf7 c) (h0:∀ a b,cmp a b=some (c a b)) {xs:List J} (hu:∀ a∈xs,∀ b∈xs,¬ c a b < 0->¬ c b a < 0->a=b) (hl:xs.length < 4611686018427387904):G6d cmp xs=some (kV c xs):=by
 rw [Q3d c h0 (Q3a hc) hl];obtain⟨hp,h5,hs⟩:=G6e c (Q3a hc) xs;have h3:(dH c xs).Perm (kV c xs):=hp.trans (jG c xs).symm;have h1:(dH c xs).Pairwise (H27 c):=List.pairwise_iff_getElem.2 (fun i j hi hj h4=>Pr (hs i j h4 hj));have h2:=jX hc xs;congr 1;exact List.Perm.eq_of_pairwise (le:=H27 c) (fun a b ha hb h1 h2=>hu a (hp.mem_iff.1 ha) b ((jG c xs).mem_iff.1 hb) h2 h1) h1 h2 h3
def wY (a b:Int):Int:=bif decide (a < b) then -1 else bif decide (b < a) then 1 else 0
theorem G14 (a b:Int):Qv a b=some (wY a b):=by
 have h1:decide (a≠a)=false:=by simp
 have h2:decide (b≠b)=false:=by simp
 simp only [Qv,iR,bnd,h1,h2,cond_false];unfold wY;cases decide (a < b) <;> cases decide (b < a) <;> rfl
theorem Qf6 (a b:Int):eE a b=some (wY a b):=by
 have h1:decide (a≠a)=false:=by simp
 have h2:decide (b≠b)=false:=by simp
 simp only [eE,fW,bnd,h1,h2,cond_false];unfold wY;cases decide (a < b) <;> cases decide (b < a) <;> rfl
def orI:AE->Int
 | []=>0
 | x::r=>bif decide (x≠0) then x else orI r
theorem Jb2 (l:AE):iJ l=some (orI l):=by
 unfold iJ;have key:∀ (l:AE) (i:Nat),each (fun(y19:Int) (_:Nat) (_:Unit) nx19=>bif decide (y19≠0) then some y19 else nx19 ()) (fun(_:Unit)=>some (0:Int)) l i ()=some (orI l):=by
  intro l
  induction l with
  | nil=>intro i; rfl
  | cons x r ih=>
   intro i;rw [each,orI];cases decide (x≠0) with
   | true=>rfl
   | false=>exact ih _
 exact key l 0
def H79 (a b:Slot):Int:=orI [wY a.G5 b.G5,wY a.AB b.AB,wY a.Half b.Half]
theorem Q3e (a b:Slot):kJ a b=some (H79 a b):=by
 simp only [kJ,G14,Qf6,Jb2,bnd]; rfl
def jW (a b:G2):Int:=orI [wY a.Slot.AB b.Slot.AB,H79 a.Slot b.Slot]
theorem Q4f (a b:G2):dL a b=some (jW a b):=by
 simp only [dL,G14,Q3e,Jb2,bnd]; rfl
def YQ (a b:He):Int:=orI [wY a.BI b.BI,wY a.Bay b.Bay]
theorem Q39 (a b:He):dX a b=some (YQ a b):=by
 simp only [dX,G14,Jb2,bnd]; rfl
theorem jN {a b:Int}:wY a b < 0 ↔ a < b:=by
 unfold wY;by_cases h:a < b
 .simp [h]
 .by_cases h2:b < a <;> simp [h,h2]
theorem pO {a b:Int}:wY a b=0 ↔ a=b:=by
 unfold wY;by_cases h:a < b
 .simp [h]; omega
 .by_cases h2:b < a
  .simp [h,h2]; omega
  .simp [h,h2]; omega
theorem zV (a:Int) (r:AE):orI (a::r) < 0 ↔ a < 0\/(a=0/\orI r < 0):=by
 rw [orI];by_cases h:a=0
 .simp [h]
 .simp [h]
theorem zK (a b:He):YQ a b < 0 ↔ a.BI < b.BI\/(a.BI=b.BI/\a.Bay < b.Bay):=by
 unfold YQ;rw [zV,zV,jN,pO,jN,pO];simp [orI]
theorem tJ:Gf7 YQ where
 asym x y:=by rw [zK,zK]; omega
 ntrans x y z:=by rw [zK,zK,zK]; omega

theorem G9f (a b:Slot):H79 a b < 0 ↔ a.G5 < b.G5\/(a.G5=b.G5/\(a.AB < b.AB\/(a.AB=b.AB/\a.Half < b.Half))):=by
 unfold H79;rw [zV,zV,zV,jN,pO,jN,pO,jN,pO];simp [orI]
theorem kR (a b:G2):jW a b < 0 ↔ a.Slot.AB < b.Slot.AB\/(a.Slot.AB=b.Slot.AB/\(a.Slot.G5 < b.Slot.G5\/(a.Slot.G5=b.Slot.G5/\a.Slot.Half < b.Slot.Half))):=by
 unfold jW;rw [zV,zV,jN,pO,G9f];simp only [orI,Int.lt_irrefl,and_false,or_false];omega
theorem YV:Gf7 jW where
 asym x y:=by rw [kR,kR]; omega
 ntrans x y z:=by rw [kR,kR,kR]; omega
def kC (s:Ge) (x:G2):Option G5:=bif decide (0<=x.Slot.G5) then s.Columns[x.Slot.G5.toNat]? else none
def R6 (s:Ge) (lf:AE) (bay:Int) (deck:Bool) (x:G2):Bool:=match kC s x with
 | some c=>(decide (c.Bay=bay)&&(c.AO==deck))&&lf.any (fun y=>decide (x.Box=y))
 | none=>false
def eF (s:Ge) (l:AG) (lf:AE) (bay:Int) (deck:Bool):Option AG:=
 bif (l.all (fun x=>(kC s x).isSome)&&decide (l.length<=1000))&&decide ((l.filter (R6 s lf bay deck)).Pairwise (fun a b=>jW a b < 0\/jW b a < 0)) then
 some (kV jW (l.filter (R6 s lf bay deck)))
 else none
theorem H5f (l:AE) (v:Int):Zq l v=some (l.any (fun y=>decide (v=y))):=by
 unfold Zq cR;have key:∀ (l:AE) (i:Nat),∃ j:Int,each (fun(y:Int) (i:Nat) (_:Unit) nx=>bif decide (v=y) then some (i:Int) else nx ()) (fun(_:Unit)=>some (-1:Int)) l i ()=some j/\decide (0<=j)=l.any (fun y=>decide (v=y)):=by
  intro l
  induction l with
  | nil=>intro i; exact⟨-1,rfl,rfl⟩
  | cons x r ih=>
   intro i;rw [each,List.any_cons];cases decide (v=x) with
   | true=>exact⟨(i:Int),rfl,Ps (by omega)⟩
   | false=>exact ih (i+1)
 obtain⟨j,e1,e2⟩:=key l 0;have e1':cR l v=some j:=e1;unfold cR at e1';rw [e1'];show some (decide (0<=j))=_
 rw [e2]
theorem H51 {s:Ge} {l:AG} {lf:AE} {bay:Int} {deck:Bool} {r:AG} (h:eF s l lf bay deck=some r):kY s l lf bay deck=some r:=by
 unfold eF at h;cases hc:((l.all (fun x=>(kC s x).isSome)&&decide (l.length<=1000))&&decide ((l.filter (R6 s lf bay deck)).Pairwise (fun a b=>jW a b < 0\/jW b a < 0))) with
 | false=>rw [hc,cond_false] at h; cases h
 | true=>
  rw [hc,cond_true] at h;simp only [S8,S9] at hc;obtain⟨⟨h1,h2⟩,h3⟩:=hc;refine Ys ?_;unfold kY;refine Jw (fun pre st=>st=pre.filter (R6 s lf bay deck)) rfl (fun pre y post st nx e hI h6=>?_) (fun st hI=>?_)
  .subst hI;have h8:pre.length < l.length:=by rw [e]; simp
   have h7:(pre.filter (R6 s lf bay deck)).length<=pre.length:=Pn _ _;have hy:=List.all_eq_true.1 h1 y (by rw [e]; simp);refine gR (fun j=>j=(pre++[y]).filter (R6 s lf bay deck)) (fun K hK=>?_) (fun j hj=>h6 _ hj);cases h4:kC s y with
   | none=>rw [h4] at hy; cases hy
   | some c=>
    have h5:R6 s lf bay deck y=((decide (c.Bay=bay)&&(c.AO==deck))&&lf.any (fun z=>decide (y.Box=z))):=by unfold R6; rw [h4]
    unfold kC at h4;by_cases h0:0<=y.Slot.G5
    .rw [Ps h0,cond_true] at h4;refine Z2 (m:=y.Slot.G5.toNat) (by omega) h4 ?_;have hk:∀ r58:Bool,((decide (c.Bay=bay)&&(c.AO==deck))&&r58)=R6 s lf bay deck y->Wp (bif ((decide (c.Bay=bay)&&(c.AO==deck))&&r58) then (need (decide (((pre.filter (R6 s lf bay deck)).length+[y].length)*32<=140737488355328/\(pre.filter (R6 s lf bay deck)).length+[y].length<=maxLen)) <| K (pre.filter (R6 s lf bay deck)++[y])) else K (pre.filter (R6 s lf bay deck))) (fun r_=>r_=r):=fun r58 he=>by
      refine H7 (fun ht=>Qs (Ps ⟨?_,?_⟩) (hK _ ?_)) (fun hf=>hK _ ?_)
      .rw [S7]; omega
      .rw [S7]; unfold maxLen; omega
      .rw [List.filter_append,List.filter_cons,<- he,ht]; rfl
      .rw [List.filter_append,List.filter_cons,<- he,hf]; simp
     cases hd:(decide (c.Bay=bay)&&(c.AO==deck)) with
     | true=>
      rw [cond_true];refine Gt (H5f lf y.Box) ?_;have:=hk (lf.any (fun z=>decide (y.Box=z))) h5.symm;rw [hd] at this;exact this
     | false=>
      rw [cond_false];refine H6 (Gg ?_);have:=hk default (by rw [h5,hd]; rfl);rw [hd] at this;exact this
    .rw [Pt h0,cond_false] at h4; cases h4
  .subst hI;have h7:(l.filter (R6 s lf bay deck)).length<=l.length:=Pn _ _;have hu:∀ a∈l.filter (R6 s lf bay deck),∀ b∈l.filter (R6 s lf bay deck),¬ jW a b < 0->¬ jW b a < 0->a=b:=fun a ha b hb n1 n2=>by
    obtain⟨i,hi,rfl⟩:=List.mem_iff_getElem.1 ha;obtain⟨j,hj,rfl⟩:=List.mem_iff_getElem.1 hb;have hp:=List.pairwise_iff_getElem.1 h3;rcases Nat.lt_trichotomy i j with g | g | g
    .exact((hp i j hi hj g).elim n1 n2).elim
    .subst g; rfl
    .exact((hp j i hj hi g).elim n2 n1).elim
   have hs:Zz (l.filter (R6 s lf bay deck)) (fun z0 z1=>dL z0 z1)=some (kV jW (l.filter (R6 s lf bay deck))):=by
    unfold Zz;rw [Gcf YV Q4f hu (by omega)];rfl
   exact Gt hs (Gg (Pw h))
def uM:=PLift.up (fun s l lf bay deck r h=>H00 s l lf bay deck r (H51 h))
def QE:=PLift.up (fun s l lf bay deck r h=>H01 s l lf bay deck r (H51 h))
theorem Qaa {β:Type} {k:Option β}:need true k=k:=rfl
theorem ZZ {W Z β:Type} {kx:List Z->Option β}:∀ (q:List (W×Z)) (s:List Z),((s.length+q.length)*32<=140737488355328/\s.length+q.length<=maxLen) ->
  G01 (fun(x:W×Z) (s:List Z) nx=>need (decide ((s.length+[x.2].length)*32<=140737488355328/\s.length+[x.2].length<=maxLen)) <| nx (s++[x.2])) kx q s=kx (s++q.map (·.2))
 | [],s,_=>by simp [G01]
 | x::q,s,h=>by
  rw [S2] at h;have hd:decide ((s.length+[x.2].length)*32<=140737488355328/\s.length+[x.2].length<=maxLen)=true:=by
   rw [S9,S7]; omega
  rw [G01,hd];simp only [Qaa];rw [ZZ q (s++[x.2]) (by rw [S6,S7]; omega)];simp
theorem H4e {J B R:Type} {r:R} (I:B->Prop) {b:J->Nat->B->(B->Option Prop)->Option Prop} {b':J->Nat->B->(B->Option R)->Option R} {kx:B->Option Prop} {kx':B->Option R}
  (h:∀ x i s nx nx',I s->(∀ s,I s->Rel r (nx s) (nx' s))->Rel r (b x i s nx) (b' x i s nx')) (hk:∀ s,I s->Rel r (kx s) (kx' s)):∀ {xs:List J} {i:Nat} {s:B},I s->Rel r (each b kx xs i s) (each b' kx' xs i s)
 | [],_,s,hs=>hk s hs
 | x::_,i,s,hs=>h x i s _ _ hs (fun _ h2=>H4e I h hk h2)

def cW (s:Ge) (l:AH):Option ((List He)×Int):=
 bnd (aY s) fun r4=>
 bif (!r4) then
 (some ([],2))
 else
 (each (fun y189 _ (s189:(Ht J9 He)) nx189=>
   jp (fun kj196=>
    bif ((decide (y189.Kind < 1))||(decide (4 < y189.Kind))) then
    (kj196 ((decide (y189.Kind < 1))||(decide (4 < y189.Kind))))
    else
    (bif (((decide (y189.Kind=1))||(decide (y189.Kind=4)))&&((decide (y189.Gv < 0))||(decide ((s.Covers.length:Int)<=y189.Gv)))) then
     (kj196 (((decide (y189.Kind=1))||(decide (y189.Kind=4)))&&((decide (y189.Gv < 0))||(decide ((s.Covers.length:Int)<=y189.Gv)))))
     else
     (kj196 ((!((decide (y189.Kind=1))||(decide (y189.Kind=4))))&&((decide (y189.Slot.G5 < 0))||(decide ((s.Columns.length:Int)<=y189.Slot.G5))))))) fun(j196:Bool)=>
   bif j196 then
   (some ([],2))
   else
   (jp (fun kj201=>
     bif decide (3<=y189.Kind) then
     (kj201 2)
     else
     (kj201 1)) fun(j201:Int)=>
    jp (fun kj203=>
     bif ((decide (y189.Kind=1))||(decide (y189.Kind=4))) then
     (Jk s.Covers y189.Gv fun y205=>
      kj203 y205.Bay)
     else
     (Jk s.Columns y189.Slot.G5 fun y207=>
      kj203 y207.Bay)) fun(j203:Int)=>
    bnd (some (Ht.get s189 (J9.mk j201 j203) (He.mk 0 0 0 0))) fun v211=>
    bnd (some (Ht.get s189 (J9.mk j201 j203) (He.mk 0 0 0 0))) fun v212=>
    jp (fun kj213=>
     bif ((decide (y189.Kind=1))||(decide (y189.Kind=4))) then
     (chk (v212.Covers+1) fun v215=>
      kj213 (v211.BJ,v215))
     else
     (chk (v211.BJ+1) fun v216=>
      kj213 (v216,v212.Covers))) fun(j213:Int×Int)=>
    nx189 (Ht.put s189 (J9.mk j201 j203) (He.mk j203 j201 j213.1 j213.2))))
  (fun(s189:(Ht J9 He))=>
   need (decide ((Ht.l s189).length<=100000)) <| some (kV YQ ((Ht.l s189).map (·.2)),0)) l 0 (Ht.empty:Ht J9 He))

def Jb9 (s:Ht J9 He):Prop:=∀ e∈Ht.l s,e.1=J9.mk e.2.BI e.2.Bay
theorem Q54 {W Z:Type} [DecidableEq W] {a:W} {v:Z} {l:List (W×Z)} {e:W×Z} (h:e∈pA l a v):e=(a,v)\/e∈l:=by
 unfold pA at h;split at h
 .obtain⟨p,hp,rfl⟩:=Sc.1 h;by_cases h0:p.1=a
  .rw [if_pos h0]; exact .inl rfl
  .rw [if_neg h0]; exact .inr hp
 .rcases Sb.1 h with h | h
  .exact .inr h
  .exact .inl (Sd.1 h)
theorem Jb9.put {s:Ht J9 He} (h:Jb9 s) (p b x y:Int):Jb9 (Ht.put s (J9.mk p b) (He.mk b p x y)):=fun e he=>by
 rcases Q54 (l:=Ht.l s) he with rfl | he
 .rfl
 .exact h e he
theorem Q0f {W Z:Type} {e f:W×Z} (hk:e.1=f.1):∀ (l:List (W×Z)),(l.map (·.1)).Nodup->e∈l->f∈l->e=f:=by
 intro l
 induction l with
 | nil=>intro _ h; simp at h
 | cons x r ih=>
  intro hn he hf;rw [List.map_cons,List.nodup_cons] at hn;rcases Se.1 he with h1 | h1
  .rcases Se.1 hf with h0 | h0
   .rw [h1,h0]
   .exact absurd (Sc.2 ⟨f,h0,by rw [<- hk,h1]⟩) hn.1
  .rcases Se.1 hf with h0 | h0
   .exact absurd (Sc.2 ⟨e,h1,by rw [hk,h0]⟩) hn.1
   .exact ih hn.2 h1 h0
theorem Jb9.unique {s:Ht J9 He} (h:Jb9 s):∀ a∈(Ht.l s).map (·.2),∀ b∈(Ht.l s).map (·.2),¬ YQ a b < 0->¬ YQ b a < 0->a=b:=by
 intro a ha b hb h0 h3;rw [zK] at h0 h3;obtain⟨e,he,rfl⟩:=Sc.1 ha;obtain⟨f,hf,rfl⟩:=Sc.1 hb;have hk:e.1=f.1:=by
  rw [h e he,h f hf];have h1:e.2.BI=f.2.BI:=by omega
  have h2:e.2.Bay=f.2.Bay:=by omega
  rw [h1,h2]
 rw [Q0f hk _ s.nd he hf]

theorem G19 (s:Ge) (l:AH) (r:(List He)×Int):Rel r (mE s l (fun r_=>r_=r)) (cW s l):=by
 unfold mE cW;refine sC (fun r4=>iH (fun _=>xS) (fun _=>?_));refine H4e Jb9 (fun y i m nx nx' hm h0=>?_) (fun m hm=>?_) (fun e he=>by cases he)
 .refine Gd3 (fun K K' hK=>iH (fun _=>hK _) (fun _=>iH (fun _=>hK _) (fun _=>hK _))) (fun j=>iH (fun _=>xS) (fun _=>?_));refine Gd3 (fun K K' hK=>iH (fun _=>hK _) (fun _=>hK _)) (fun j1=>?_);refine Gd3 (fun K K' hK=>iH (fun _=>Hff (fun _=>hK _)) (fun _=>Hff (fun _=>hK _))) (fun j2=>?_);refine sC (fun v=>sC (fun v2=>?_));refine Gd3 (fun K K' hK=>iH (fun _=>Ga1 (fun _=>hK _)) (fun _=>Ga1 (fun _=>hK _))) (fun j3=>h0 _ (hm.put _ _ _ _))
 .intro h;obtain⟨hd,h⟩:=J5 h;have hd:=Pq hd;refine⟨_,rfl,fun q hq=>?_⟩;have hl:=hq.length_eq;rw [ZZ q [] (by simp only [List.length_nil,Nat.zero_add,hl]; constructor <;> (try unfold maxLen) <;> omega)];rw [List.nil_append];unfold bK;rw [Gcf tJ Q39 (fun a ha b hb=>hm.unique a ((hq.map _).mem_iff.1 ha) b ((hq.map _).mem_iff.1 hb)) (by rw [Sa]; omega)];refine⟨_,rfl,?_⟩;rw [G79 tJ hm.unique (hq.map _)];exact Pw h
def GL:=PLift.up (G9d cW (fun s l r h=>G19 s l r h))
end Go.Proofs.YtkiekighbhnolaaGreat
