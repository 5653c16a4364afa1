/-
 MovesCalls: MovesCalls: MovesCalls:
-/
import Derived.Test.YtkiekighbhnolaaGreatMovV
set_option maxRecDepth 100000
set_option linter.unusedVariables false
namespace Go.Proofs.YtkiekighbhnolaaGreat
open Go.RowKit

section
variable {s:Ge} {bx:AK} {bf af:AG} {lf:AE}
def JH (s:Ge) (bf:AG) (lf:AE) (ks:Int->AE) (bay:Int):AH:=
 ((kV G12 (bf.filter (R6 s lf bay true))).map (mvB 2)++(ks bay).map (mvC 1))++(kV G12 (bf.filter (R6 s lf bay false))).map (mvB 2)
def H84 (s:Ge) (af:AG) (lf:AE) (ks:Int->AE) (bay:Int):AH:=
 ((kV jW (af.filter (R6 s lf bay false))).map (mvB 3)++(ks bay).map (mvC 4))++(kV jW (af.filter (R6 s lf bay true))).map (mvB 3)
def qL (f:Int->AH) (n:Nat):AH:=(List.range n).flatMap (fun i:Nat=>f (i:Int))
theorem tE (f:Int->AH) (n:Nat):qL f (n+1)=qL f n++f (n:Int):=by
 unfold qL;rw [List.range_succ,List.flatMap_append];simp
theorem H3c {f:Int->AH} {b:Nat} (hf:∀ i,(f i).length<=b) (n:Nat):(qL f n).length<=b*n:=by
 induction n with
 | zero=>simp [qL]
 | succ n ih=>
  rw [tE,S6,Nat.mul_succ];have:=hf (n:Int);omega
theorem iK {l:AG} {c:G2->G2->Int} {bay:Int} {deck:Bool}:(kV c (l.filter (R6 s lf bay deck))).length<=l.length:=by
 rw [JN]; exact Pn _ _
theorem Jb5 {F:Nat} (h1:Qq s bx bf) (h2:Qq s bx af) (l1:bf.length<=14) (l2:af.length<=14) (hr:∀ x∈s.Covers,x.Rows.length<=1000000) (h6:s.Covers.length<=12) (hF:30<=F) :
  ∃ r,oU F s bf af lf=some r/\r.length<=100000/\∀ {k:AH->Option (AH×Int)},(need (decide (40<=9223372036854775807)) <|
  upto (fun i31 (s31:AH) nx31=>
   bnd (Q5 F s bf lf (i31:Int) true 2) fun r36=>
   need (decide ((s31.length+r36.length)*48<=140737488355328/\s31.length+r36.length<=maxLen)) <|
   bnd (Qt s bf af lf (i31:Int) 1) fun r39=>
   need (decide (((s31++r36).length+r39.length)*48<=140737488355328/\(s31++r36).length+r39.length<=maxLen)) <|
   bnd (Q5 F s bf lf (i31:Int) false 2) fun r41=>
   need (decide ((((s31++r36)++r39).length+r41.length)*48<=140737488355328/\((s31++r36)++r39).length+r41.length<=maxLen)) <|
   nx31 (((s31++r36)++r39)++r41))
  (fun(s31:AH)=>
   need (decide (40<=9223372036854775807)) <|
   upto (fun i66 (s66:AH) nx66=>
    bnd (Q5 F s af lf (i66:Int) false 3) fun r71=>
    need (decide ((s66.length+r71.length)*48<=140737488355328/\s66.length+r71.length<=maxLen)) <|
    bnd (Qt s bf af lf (i66:Int) 4) fun r74=>
    need (decide (((s66++r71).length+r74.length)*48<=140737488355328/\(s66++r71).length+r74.length<=maxLen)) <|
    bnd (Q5 F s af lf (i66:Int) true 3) fun r76=>
    need (decide ((((s66++r71)++r74).length+r76.length)*48<=140737488355328/\((s66++r71)++r74).length+r76.length<=maxLen)) <|
    nx66 (((s66++r71)++r74)++r76))
   (fun(s66:AH)=>
    some (s66,(0:Int))) (40:Int).toNat 0 s31) (40:Int).toNat 0 [])=some (r,0):=by
 have h8:∀ bay:Int,∃ ks:AE,fB F s bf af lf bay=some ks/\(ks.Pairwise (· < ·)/\ks.length<=12/\∀ k,k∈ks ↔ yH s lf bay [bf,af] k):=fun bay=>J0b h1 h2 l1 l2 hr h6 hF;obtain⟨ks,h5⟩:=Classical.axiomOfChoice h8;have h4:∀ b,(ks b).length<=12:=fun b=>(h5 b).2.2.1;have h7:∀ (bay:Int) (kind:Int),Qt s bf af lf bay kind=some ((ks bay).map (mvC kind)):=fun bay kind=>by
  obtain⟨r,e,q,rfl,hq,hm⟩:=J9b (kind:=kind) (lf:=lf) (bay:=bay) h1 h2 h6;rw [e,GC hq (h5 bay).2.1 (fun k=>(hm k).trans ((h5 bay).2.2.2 k).symm)]
 have h9:∀ b,(JH s bf lf ks b).length<=40:=fun b=>by
  have g1:=iK (s:=s) (lf:=lf) (l:=bf) (c:=G12) (bay:=b) (deck:=true);have g2:=iK (s:=s) (lf:=lf) (l:=bf) (c:=G12) (bay:=b) (deck:=false);have g3:=h4 b;unfold JH;simp only [S6,Sa];omega
 have a0:∀ b,(H84 s af lf ks b).length<=40:=fun b=>by
  have g1:=iK (s:=s) (lf:=lf) (l:=af) (c:=jW) (bay:=b) (deck:=true);have g2:=iK (s:=s) (lf:=lf) (l:=af) (c:=jW) (bay:=b) (deck:=false);have g3:=h4 b;unfold H84;simp only [S6,Sa];omega
 have ho:=H3c h9;have hi:=H3c a0;have a1:(40:Int).toNat=40:=rfl;refine⟨qL (JH s bf lf ks) 40++qL (H84 s af lf ks) 40,Ys ?_,?_,fun {k}=>Ys ?_⟩
 .unfold oU;refine Qs rfl (kO (fun i st=>st=qL (JH s bf lf ks) i) rfl (fun i st nx h0 hI h3=>?_) (fun st hI=>?_))
  .subst hI;have h0:i < 40:=h0;have q1:=ho i;have q2:=h4 (i:Int);have g1:=iK (s:=s) (lf:=lf) (l:=bf) (c:=G12) (bay:=(i:Int)) (deck:=true);have g2:=iK (s:=s) (lf:=lf) (l:=bf) (c:=G12) (bay:=(i:Int)) (deck:=false);have f1:=Pn (R6 s lf (i:Int) true) bf;have f2:=Pn (R6 s lf (i:Int) false) bf;refine Gt (h1.part (by omega)) (Gt (J2b h1.apart2 hF (by omega)) (Gt (GF (by omega)) (Gt (h5 _).1 (Gt (G82 (by simp only [S6,Sa]; omega)) (Gt (h1.part (by omega)) (Gt (J2b h1.apart2 hF (by omega)) (Gt (GF (by simp only [S6,Sa]; omega)) (h3 _ ?_))))))));rw [tE];unfold JH;simp only [List.append_assoc]
  .have hI:st=qL (JH s bf lf ks) 40:=hI;subst hI;have q0:=ho 40;refine Qs rfl (kO (fun i st=>st=qL (JH s bf lf ks) 40++qL (H84 s af lf ks) i) (by simp [qL]) (fun i st nx h0 hI h3=>?_) (fun st hI=>Gg hI));subst hI;have h0:i < 40:=h0;have q1:=hi i;have q2:=h4 (i:Int);have g1:=iK (s:=s) (lf:=lf) (l:=af) (c:=jW) (bay:=(i:Int)) (deck:=true);have g2:=iK (s:=s) (lf:=lf) (l:=af) (c:=jW) (bay:=(i:Int)) (deck:=false);refine Gt (h2.part (by omega)) (Gt (GF (by simp only [S6]; omega)) (Gt (h5 _).1 (Gt (G82 (by simp only [S6,Sa]; omega)) (Gt (h2.part (by omega)) (Gt (GF (by simp only [S6,Sa]; omega)) (h3 _ ?_))))));rw [tE (H84 s af lf ks) i];unfold H84;simp only [List.append_assoc]
 .rw [S6];have:=ho 40;have:=hi 40;omega
 .refine Qs rfl (kO (fun i st=>st=qL (JH s bf lf ks) i) rfl (fun i st nx h0 hI h3=>?_) (fun st hI=>?_))
  .subst hI;have h0:i < 40:=h0;have q1:=ho i;have q2:=h4 (i:Int);have g1:=iK (s:=s) (lf:=lf) (l:=bf) (c:=G12) (bay:=(i:Int)) (deck:=true);have g2:=iK (s:=s) (lf:=lf) (l:=bf) (c:=G12) (bay:=(i:Int)) (deck:=false);refine Gt (QR h1 l1 hF) (Qs (pC ?_ (by omega)) (Gt (h7 _ _) (Qs (pC ?_ (by omega)) (Gt (QR h1 l1 hF) (Qs (pC ?_ (by omega)) (h3 _ ?_))))))
   .simp only [S6,Sa,cK,decide_true,cond_true]; omega
   .simp only [S6,Sa,cK,decide_true,cond_true]; omega
   .simp only [S6,Sa,cK,decide_true,cond_true]; omega
   .rw [tE];unfold JH;simp only [List.append_assoc,cK,decide_true,cond_true]
  .have hI:st=qL (JH s bf lf ks) 40:=hI;subst hI;have q0:=ho 40;refine Qs rfl (kO (fun i st=>st=qL (JH s bf lf ks) 40++qL (H84 s af lf ks) i) (by simp [qL]) (fun i st nx h0 hI h3=>?_) (fun st hI=>Gg (Prod.ext hI rfl)));subst hI;have h0:i < 40:=h0;have q1:=hi i;have q2:=h4 (i:Int);have e3:cK 3=jW:=rfl;have g1:=iK (s:=s) (lf:=lf) (l:=af) (c:=jW) (bay:=(i:Int)) (deck:=true);have g2:=iK (s:=s) (lf:=lf) (l:=af) (c:=jW) (bay:=(i:Int)) (deck:=false);refine Gt (QR h2 l2 hF) (Qs (pC ?_ (by omega)) (Gt (h7 _ _) (Qs (pC ?_ (by omega)) (Gt (QR h2 l2 hF) (Qs (pC ?_ (by omega)) (h3 _ ?_))))))
   .simp only [S6,Sa,e3]; omega
   .simp only [S6,Sa,e3]; omega
   .simp only [S6,Sa,e3]; omega
   .rw [tE (H84 s af lf ks) i];unfold H84;simp only [List.append_assoc,e3]
end

def isC (m:Move):Bool:=(decide (m.Kind=1))||(decide (m.Kind=4))
def vH (m:Move):Int:=if 3<=m.Kind then 2 else 1
def lO (s:Ge) (m:Move):Int:=if isC m then ((s.Covers[m.Gv.toNat]?).map (·.Bay)).getD 0 else ((s.Columns[m.Slot.G5.toNat]?).map (·.Bay)).getD 0
def MvR (s:Ge) (m:Move):Prop:=((m.Kind=1\/m.Kind=4)/\0<=m.Gv/\m.Gv < (s.Covers.length:Int))\/((m.Kind=2\/m.Kind=3)/\0<=m.Slot.G5/\m.Slot.G5 < (s.Columns.length:Int))
def ZA (s:Ge) (p b:Int) (c:Bool) (m:Move):Bool:=(decide (vH m=p)&&decide (lO s m=b))&&(isC m==c)
def nT (s:Ge) (p b:Int) (c:Bool) (l:AH):Int:=(l.countP (ZA s p b c):Nat)
def tk (s:Ge) (l:AH) (p b:Int):He:=He.mk b p (nT s p b false l) (nT s p b true l)
theorem G07 (s:Ge) (p b:Int) (c:Bool) (l:AH) (x:Move):nT s p b c (l++[x])=nT s p b c l+(if ZA s p b c x=true then 1 else 0):=by
 unfold nT; rw [List.countP_append]; by_cases h:ZA s p b c x=true <;> simp [h]
theorem RS (s:Ge) (p b:Int) (c:Bool) (l:AH):0<=nT s p b c l/\nT s p b c l<=(l.length:Int):=by
 unfold nT; have:=List.countP_le_length (p:=ZA s p b c) (l:=l); omega
theorem J18 {J W:Type} [DecidableEq J] (l:List (J×W)) (a:J) (v:W):(pA l a v).length<=l.length+1:=by
 unfold pA; split <;> simp
structure J2c (s:Ge) (pre:AH) (m:Ht J9 He):Prop where
 get:∀ p b,gV (Ht.l m) ⟨p,b⟩=if nT s p b false pre+nT s p b true pre=0 then none else some (tk s pre p b)
 len:(Ht.l m).length<=pre.length
variable {s:Ge} {m:Ht J9 He}
theorem J2c.old {pre:AH} (h:J2c s pre m) (p b:Int):(Ht.get m (J9.mk p b) (He.mk 0 0 0 0)).BJ=nT s p b false pre/\(Ht.get m (J9.mk p b) (He.mk 0 0 0 0)).Covers=nT s p b true pre:=by
 have e:Ht.get m (J9.mk p b) (He.mk 0 0 0 0)=(gV (Ht.l m) ⟨p,b⟩).getD (He.mk 0 0 0 0):=rfl;rw [e,h.get];have g1:=RS s p b false pre;have g2:=RS s p b true pre;by_cases hz:nT s p b false pre+nT s p b true pre=0
 .rw [if_pos hz];show (0:Int)=_/\(0:Int)=_
  omega
 .rw [if_neg hz]; exact⟨rfl,rfl⟩
theorem J2c.put {pre:AH} (h:J2c s pre m) (y:Move):J2c s (pre++[y]) (Ht.put m (J9.mk (vH y) (lO s y)) (tk s (pre++[y]) (vH y) (lO s y))) where
 get p b:=by
  show gV (pA (Ht.l m) _ _) _=_
  rw [G37];have g1:=RS s p b false pre;have g2:=RS s p b true pre;by_cases hk:(J9.mk (vH y) (lO s y))=J9.mk p b
  .have hp:vH y=p:=congrArg J9.e0 hk;have hb:lO s y=b:=congrArg J9.e1 hk;rw [if_pos hk,hp,hb,if_neg ?_];rw [G07,G07];have:ZA s p b (isC y) y=true:=by unfold ZA; rw [hp,hb]; simp
   cases hc:isC y with
   | true=>rw [hc] at this; rw [if_pos this]; split <;> omega
   | false=>rw [hc] at this; rw [if_pos this]; split <;> omega
  .have hn:∀ c,ZA s p b c y=false:=fun c=>by
    unfold ZA;by_cases hp:vH y=p
    .by_cases hb:lO s y=b
     .exact(hk (by rw [hp,hb])).elim
     .simp [hb]
    .simp [hp]
   rw [if_neg hk,h.get];have e:∀ c,nT s p b c (pre++[y])=nT s p b c pre:=fun c=>by rw [G07,hn c]; simp
   unfold tk;rw [e,e]
 len:=by
  show (pA (Ht.l m) _ _).length<=_
  have:=J18 (Ht.l m) (J9.mk (vH y) (lO s y)) (tk s (pre++[y]) (vH y) (lO s y));have:=h.len;rw [S6,S7];omega
structure G40 (s:Ge) (l:AH) (ts:List He):Prop where
 sorted:ts.Pairwise (fun a b=>YQ a b < 0)
 mem:∀ t,t∈ts ↔ ∃ p b,nT s p b false l+nT s p b true l≠0/\t=tk s l p b
theorem G40.eq {l:AH} {a b:List He} (ha:G40 s l a) (hb:G40 s l b):a=b:=by
 have hn:∀ {q:List He},q.Pairwise (fun a b=>YQ a b < 0)->q.Nodup:=fun {q} h=>by
  rw [List.nodup_iff_pairwise_ne];exact h.imp (fun h e=>by subst e; exact tJ.asym _ _ h h)
 exact List.Perm.eq_of_pairwise (le:=fun a b=>YQ a b < 0) (fun x y _ _ h1 h2=>(tJ.asym _ _ h1 h2).elim) ha.sorted hb.sorted ((List.perm_ext_iff_of_nodup (hn ha.sorted) (hn hb.sorted)).2 (fun t=>(ha.mem t).trans (hb.mem t).symm))
theorem J11 {J W:Type} [DecidableEq J] {a:J} {v:W}:∀ {l:List (J×W)},gV l a=some v->(a,v)∈l
 | [],h=>by cases h
 | p::l,h=>by
  rw [mY] at h;by_cases e:p.1=a
  .rw [if_pos e] at h;cases h;rw [<- e];exact List.mem_cons_self ..
  .rw [if_neg e] at h;exact List.mem_cons_of_mem _ (J11 h)
theorem J2c.done {l:AH} (h:J2c s l m):G40 s l (kV YQ ((Ht.l m).map (·.2))):=by
 have h4:∀ e∈Ht.l m,nT s e.1.e0 e.1.e1 false l+nT s e.1.e0 e.1.e1 true l≠0/\e.2=tk s l e.1.e0 e.1.e1:=fun e he=>by
  obtain⟨j,hj⟩:=List.mem_iff_getElem?.1 he;have h1:=(zY m.nd (j:=j) (a:=e.1) (v:=e.2) hj).1;have h2:=h.get e.1.e0 e.1.e1;rw [show (J9.mk e.1.e0 e.1.e1)=e.1 from rfl,h1] at h2;by_cases hz:nT s e.1.e0 e.1.e1 false l+nT s e.1.e0 e.1.e1 true l=0
  .rw [if_pos hz] at h2; cases h2
  .rw [if_neg hz] at h2; exact⟨hz,Pw h2⟩
 have h0:Jb9 m:=fun e he=>by rw [(h4 e he).2]; rfl
 have h5:((Ht.l m).map (·.2)).Nodup:=by
  have:=m.nd;rw [List.nodup_iff_pairwise_ne,List.pairwise_map] at this ⊢;refine List.Pairwise.imp_of_mem (fun {a b} ha hb h3 e=>h3 ?_) this;rw [h0 a ha,h0 b hb,e]
 refine⟨?_,fun t=>?_⟩
 .have h6:=(jG YQ ((Ht.l m).map (·.2))).nodup_iff.2 h5;refine List.Pairwise.imp_of_mem (fun {a b} ha hb h3=>?_) (List.pairwise_and_iff.2 ⟨jX tJ _,h6⟩);refine Classical.byContradiction fun hn=>h3.2 ?_;exact h0.unique a (jY.1 ha) b (jY.1 hb) hn h3.1
 .rw [jY,Sc];constructor
  .rintro⟨e,he,rfl⟩;obtain⟨g1,g2⟩:=h4 e he;exact⟨_,_,g1,g2⟩
  .rintro⟨p,b,g,rfl⟩;have:=h.get p b;rw [if_neg g] at this;exact⟨_,J11 this,rfl⟩

section
variable {s:Ge} {l:AH}
theorem Q53 (pre:AH) (y:Move) (c:Bool):nT s (vH y) (lO s y) c (pre++[y])=nT s (vH y) (lO s y) c pre+(if isC y=c then 1 else 0):=by
 rw [G07]; unfold ZA; simp
theorem QX (m:Move):isC m=true ↔ m.Kind=1\/m.Kind=4:=by
 unfold isC; rw [Sg,S9,S9]
theorem MvR.cover {y:Move} (h:MvR s y) (hc:isC y=true):∃ x,s.Covers[y.Gv.toNat]? = some x/\0<=y.Gv/\lO s y=x.Bay:=by
 have hk:=(QX y).1 hc;rcases h with ⟨_,h1,h2⟩ | ⟨h0,_⟩
 .have hx:s.Covers[y.Gv.toNat]? = some s.Covers[y.Gv.toNat]:=Pv (by omega);refine⟨_,hx,h1,?_⟩;unfold lO;rw [if_pos hc,hx]; rfl
 .omega
theorem MvR.AC {y:Move} (h:MvR s y) (hc:isC y=false):∃ x,s.Columns[y.Slot.G5.toNat]? = some x/\0<=y.Slot.G5/\lO s y=x.Bay:=by
 have hk:¬ (y.Kind=1\/y.Kind=4):=fun g=>by rw [(QX y).2 g] at hc; cases hc
 rcases h with ⟨h0,_⟩ | ⟨_,h1,h2⟩
 .exact(hk h0).elim
 .have hx:s.Columns[y.Slot.G5.toNat]? = some s.Columns[y.Slot.G5.toNat]:=Pv (by omega);refine⟨_,hx,h1,?_⟩;unfold lO;rw [if_neg (by rw [hc]; exact fun e=>Bool.noConfusion e),hx]; rfl
theorem J9f (hS:aY s=some true) (hl:l.length<=100000):Wp (cW s l) (fun r=>(¬ (∀ m∈l,MvR s m)/\r=([],2))\/((∀ m∈l,MvR s m)/\r.2=0/\G40 s l r.1)):=by
 unfold cW;refine Gt hS (H7 (fun h=>by cases h) (fun _=>?_));refine Jw (fun pre m=>(∀ x∈pre,MvR s x)/\J2c s pre m) ⟨fun x hx=>(Py hx).elim,⟨fun p b=>by simp [nT,Ht.empty,gV],by simp [Ht.empty]⟩⟩ (fun pre y post m nx e hI h1=>?_) (fun m hI=>?_)
 .obtain⟨i1,i2⟩:=hI;have h3:y∈l:=by rw [e]; simp
  have h7:pre.length < l.length:=by rw [e]; simp
  refine gR (fun j:Bool=>j=true ↔ ¬ MvR s y) (fun K hK=>H7 (fun h=>hK _ ?_) (fun h=>H7 (fun h2=>hK _ ?_) (fun h2=>hK _ ?_))) (fun j hj=>H7 (fun h=>Gg (.inl ⟨fun hh=>hj.1 h (hh y h3),rfl⟩)) (fun h=>?_))
  .refine⟨fun _=>?_,fun _=>h⟩;simp only [Sg,S9] at h;unfold MvR; omega
  .refine⟨fun _=>?_,fun _=>h2⟩;simp only [Sg,S8,S9] at h2;unfold MvR; omega
  .simp only [Sh,Bool.and_eq_false_iff,decide_eq_false_iff_not] at h h2;rw [S8,Bool.not_eq_true',Sh,Sg,decide_eq_false_iff_not,decide_eq_false_iff_not,S9,S9];unfold MvR; omega
  .have hm:MvR s y:=Classical.byContradiction fun g=>by rw [hj.2 g] at h; cases h
   have hk:1<=y.Kind/\y.Kind<=4:=by unfold MvR at hm; omega
   refine gR (fun j:Int=>j=vH y) (fun K hK=>H7 (fun h=>hK _ ?_) (fun h=>hK _ ?_)) (fun j1 h4=>?_)
   .have:=Pq h; unfold vH; rw [if_pos this]
   .have:=Pr h; unfold vH; rw [if_neg this]
   subst h4;refine gR (fun j:Int=>j=lO s y) (fun K hK=>H7 (fun h=>?_) (fun h=>?_)) (fun j2 h5=>?_)
   .have h:isC y=true:=h;obtain⟨x,hx,h0,hb⟩:=hm.cover h;exact Z2 (m:=y.Gv.toNat) (by omega) hx (hK _ hb.symm)
   .have h:isC y=false:=h;obtain⟨x,hx,h0,hb⟩:=hm.AC h;exact Z2 (m:=y.Slot.G5.toNat) (by omega) hx (hK _ hb.symm)
   subst h5;obtain⟨o1,o2⟩:=i2.old (vH y) (lO s y);have b1:=RS s (vH y) (lO s y) false pre;have b2:=RS s (vH y) (lO s y) true pre;have w1:=Q53 (s:=s) pre y false;have w2:=Q53 (s:=s) pre y true;refine H6 (Gg (H6 (Gg ?_)));refine gR (fun j:Int×Int=>j=(nT s (vH y) (lO s y) false (pre++[y]),nT s (vH y) (lO s y) true (pre++[y]))) (fun K hK=>H7 (fun h=>?_) (fun h=>?_)) (fun j3 h6=>h1 _ ⟨Q2 i1 hm,?_⟩)
   .have h:isC y=true:=h;rw [h] at w1 w2;rw [if_neg (fun e=>Bool.noConfusion e)] at w1;rw [if_pos rfl] at w2;rw [o1,o2];exact aT ⟨by omega,by omega⟩ (hK _ (Prod.ext (by simp only; omega) (by simp only; omega)))
   .have h:isC y=false:=h;rw [h] at w1 w2;rw [if_neg (fun e=>Bool.noConfusion e)] at w2;rw [if_pos rfl] at w1;rw [o1,o2];exact aT ⟨by omega,by omega⟩ (hK _ (Prod.ext (by simp only; omega) (by simp only; omega)))
   .subst h6;exact i2.put y
 .obtain⟨i1,i2⟩:=hI;have:=i2.len;exact Qs (Ps (by omega)) (Gg (.inr ⟨i1,rfl,i2.done⟩))
theorem J07 (y:Move):∃ r,bA s y=some r/\(r=true ↔ MvR s y):=by
 unfold bA;by_cases h:isC y=true
 .have hk:=(QX y).1 h;rw [show (decide (y.Kind=1)||decide (y.Kind=4))=true from h,cond_true];refine⟨_,rfl,?_⟩;simp only [S8,S9];unfold MvR; omega
 .have hk:¬ (y.Kind=1\/y.Kind=4):=fun g=>h ((QX y).2 g);rw [show (decide (y.Kind=1)||decide (y.Kind=4))=false from Bool.eq_false_iff.2 h,cond_false];refine⟨_,rfl,?_⟩;simp only [S8,Sg,S9];unfold MvR; omega
theorem Jd5 (hS:qV s) (hm:∀ m∈l,MvR s m) {p b:Int} {c:Bool} (h:nT s p b c l≠0):(p=1\/p=2)/\0<=b/\b < 40:=by
 unfold nT at h;obtain⟨y,hy,hh⟩:=List.countP_pos_iff.1 (by omega:0 < l.countP (ZA s p b c));simp only [ZA,S8,S9] at hh;obtain⟨⟨rfl,rfl⟩,_⟩:=hh;refine⟨by unfold vH; split <;> omega,?_⟩;have h0:=hm y hy;cases hc:isC y with
 | true=>
  obtain⟨x,hx,_,e⟩:=h0.cover hc;have:=(hS.cov x (Px hx)).bay;omega
 | false=>
  obtain⟨x,hx,_,e⟩:=h0.AC hc;have:=(hS.col x (Px hx)).place;omega
end
end Go.Proofs.YtkiekighbhnolaaGreat
