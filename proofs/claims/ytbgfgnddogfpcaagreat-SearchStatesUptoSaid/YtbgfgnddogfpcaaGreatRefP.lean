/-
 The ways to pile GU up: search.states: search.states: SearchStates:
-/
import Derived.Test.YtbgfgnddogfpcaaGreatSeaB
set_option maxRecDepth 100000
namespace Go.Proofs.YtbgfgnddogfpcaaGreat
open Go.RowKit

def RE (a b:G2):Prop:=a.Slot.G5 < b.Slot.G5\/(a.Slot.G5=b.Slot.G5/\a.Slot.AB < b.Slot.AB)
variable {c:Nat}
theorem H85 (hs:AE) (hc:c < hs.length) (v:Int) (c':Nat):(hs.set c v).getD c' 0=if c'=c then v else hs.getD c' 0:=by
 by_cases h:c'=c
 .subst h; simp [List.getD,hc]
 .rw [if_neg h];simp only [List.getD,List.getElem?_set_ne (Ne.symm h)]
variable {hs ts:AE}
theorem Hff (h:shut ts hs c=false):hs.getD c 0 < ts.getD c 0/\∀ c',c < c'->hs.getD c' 0<=0:=by
 unfold shut at h;simp only [Py,decide_eq_false_iff_not,List.any_eq_false,Pq] at h;refine⟨by omega,fun c' h0=>?_⟩;rcases P4 c' hs.length with hl | hl
 .have hm:hs[c']∈hs.drop (c+1):=by
   refine List.mem_iff_getElem.2 ⟨c' - (c+1),by simp; omega,?_⟩;simp only [List.getElem_drop];congr 1; omega
  have:=h.1 _ hm;simp only [List.getD,Pb hl,Option.getD_some]; omega
 .simp [List.getD,List.getElem?_eq_none hl]
theorem Q17 (h1:hs.getD c 0 < ts.getD c 0) (h2:∀ c',c < c'->hs.getD c' 0<=0):shut ts hs c=false:=by
 unfold shut;simp only [Py,decide_eq_false_iff_not,List.any_eq_false,Pq];refine⟨fun x hx=>?_,by omega⟩;obtain⟨j,hj,rfl⟩:=List.mem_iff_getElem.1 hx;rw [List.getElem_drop];have hl:c+1+j < hs.length:=by simp at hj; omega
 have:=h2 (c+1+j) (by omega);simp only [List.getD,Pb hl,Option.getD_some] at this;omega
theorem qJ (ts:AE) (F:Nat) (ids hs:AE):gT ts (F+1) ids hs=bif ids.isEmpty then [[]] else
   (List.range ts.length).flatMap fun c=>bif shut ts hs c then [] else
    (List.range ids.length).flatMap fun i=>(gT ts F (ids.eraseIdx i) (hs.set c (hs.getD c 0+1))).map fun r=>(⟨ids.getD i 0,⟨(c:Int),hs.getD c 0,0⟩⟩:G2)::r:=rfl
theorem G62 {W:Type} {l:List W} {i:Nat} (h:i < l.length):(l[i]::l.eraseIdx i).Perm l:=by
 rw [List.eraseIdx_eq_take_drop_succ];have h1:=List.perm_middle (a:=l[i]) (l₁:=l.take i) (l₂:=l.drop (i+1));rw [<- List.drop_eq_getElem_cons h,List.take_append_drop] at h1;exact h1.symm
variable {ids:AE} {F:Nat}
theorem G54 {r:AG}:r∈gT ts (F+1) ids hs ↔ (ids=[]/\r=[])\/(ids≠[]/\∃ c i q,c < ts.length/\shut ts hs c=false/\i < ids.length/\q∈gT ts F (ids.eraseIdx i) (hs.set c (hs.getD c 0+1))/\r=(⟨ids.getD i 0,⟨(c:Int),hs.getD c 0,0⟩⟩:G2)::q):=by
 rw [qJ];cases ids with
 | nil=>simp
 | cons a l=>
  simp only [List.isEmpty_cons,cond_false,List.mem_flatMap,List.mem_range,reduceCtorEq,false_and,false_or,ne_eq,not_false_eq_true,true_and];constructor
  .rintro⟨c,hc,hr⟩;cases h0:shut ts hs c with
   | true=>rw [h0] at hr; simp at hr
   | false=>
    rw [h0] at hr;simp only [cond_false,List.mem_flatMap,List.mem_range,Pt] at hr;obtain⟨i,hi,q,hq,rfl⟩:=hr;exact⟨c,i,q,hc,h0,hi,hq,rfl⟩
  .rintro⟨c,i,q,hc,h0,hi,hq,rfl⟩;refine⟨c,hc,?_⟩;rw [h0];simp only [cond_false,List.mem_flatMap,List.mem_range,Pt];exact⟨i,hi,q,hq,rfl⟩

structure H90 (ts hs:AE) (l:AG):Prop where
 place:∀ x∈l,x.Slot.Half=0/\∃ c:Nat,x.Slot.G5=(c:Int)/\c < ts.length/\hs.getD c 0<=x.Slot.AB/\x.Slot.AB < ts.getD c 0/\∀ c',c < c'->hs.getD c' 0<=0
 held:∀ x∈l,(∀ c:Nat,x.Slot.G5=(c:Int)->x.Slot.AB<=hs.getD c 0)\/∃ y∈l,y.Slot=⟨x.Slot.G5,x.Slot.AB - 1,0⟩
theorem HF {ts:AE}:∀ {F:Nat} {ids hs:AE} {r:AG},hs.length=ts.length->(∀ h∈hs,0<=h)->r∈gT ts F ids hs->(r.map (·.Box)).Perm ids/\H90 ts hs r/\r.Pairwise RE
 | 0,_,_,_,_,_,h=>by simp [gT] at h
 | F+1,ids,hs,r,hl,hn,h=>by
  rcases G54.1 h with ⟨rfl,rfl⟩ | ⟨h8,c,i,q,hc,h2,hi,hq,rfl⟩
  .exact⟨List.Perm.refl _,⟨fun x hx=>(Pe hx).elim,fun x hx=>(Pe hx).elim⟩,.nil⟩
  .have h1:c < hs.length:=by omega
   have hh:hs.getD c 0=hs[c]:=by simp [List.getD,h1]
   have h0:0<=hs.getD c 0:=by rw [hh]; exact hn _ (List.getElem_mem h1)
   obtain⟨s1,s2⟩:=Hff h2;obtain⟨p1,p2,p3⟩:=HF (F:=F) (by rw [List.length_set]; exact hl) (fun h hm=>by
    rcases List.mem_or_eq_of_mem_set hm with hm | rfl
    .exact hn h hm
    .omega) hq
   have hid:ids.getD i 0=ids[i]:=by simp [List.getD,hi]
   have gs:=H85 hs h1 (hs.getD c 0+1)
   -- the later ones
   have late:∀ y∈q,RE ⟨ids.getD i 0,⟨(c:Int),hs.getD c 0,0⟩⟩ y:=fun y hy=>by
    obtain⟨_,cy,e1,e2,e3,e4,e5⟩:=p2.place y hy;rcases Nat.lt_trichotomy cy c with h3 | rfl | h9
    .have:=e5 c h3;rw [gs,if_pos rfl] at this; omega
    .rw [gs,if_pos rfl] at e3;exact .inr ⟨e1.symm,by show hs.getD cy 0 < y.Slot.AB; omega⟩
    .exact .inl (by show (c:Int) < y.Slot.G5; omega)
   refine⟨?_,⟨fun x hx=>?_,fun x hx=>?_⟩,List.pairwise_cons.2 ⟨late,p3⟩⟩
   .rw [List.map_cons,hid];exact(p1.cons _).trans (G62 hi)
   .rcases Pv.1 hx with rfl | hx
    .exact⟨rfl,c,rfl,hc,Int.le_refl _,s1,s2⟩
    .obtain⟨e0,cy,e1,e2,e3,e4,e5⟩:=p2.place x hx;refine⟨e0,cy,e1,e2,?_,e4,fun c' h4=>?_⟩
     .rw [gs] at e3;split at e3
      .next h=>subst h; omega
      .exact e3
     .have:=e5 c' h4;rw [gs] at this;split at this
      .next h=>subst h; omega
      .exact this
   .rcases Pv.1 hx with rfl | hx
    .refine .inl fun c2 e=>?_;have e:(c:Int)=(c2:Int):=e;have:c2=c:=by omega
     subst this;exact Int.le_refl _
    .obtain⟨e0,cy,e1,e2,e3,e4,e5⟩:=p2.place x hx;rcases p2.held x hx with h5 | ⟨y,hy,h6⟩
     .have:=h5 cy e1;rw [gs] at this e3;by_cases h:cy=c
      .subst h;rw [if_pos rfl] at this e3;have h7:hs.getD cy 0=x.Slot.AB - 1:=by omega
       exact .inr ⟨_,List.mem_cons_self ..,by rw [e1,<- h7]⟩
      .rw [if_neg h] at this;refine .inl fun c2 e=>?_;have:c2=cy:=by omega
       subst this; omega
     .exact .inr ⟨y,List.mem_cons_of_mem _ hy,h6⟩
theorem G61:∀ {l:AG},l≠[]->∃ x∈l,∀ y∈l,hU x.Slot y.Slot<=0
 | [],h=>(h rfl).elim
 | [x],_=>⟨x,List.mem_cons_self ..,fun y hy=>by simp at hy; subst hy; rw [pV.refl]; exact Int.le_refl _⟩
 | x::y::r,_=>by
  obtain⟨m,hm,h0⟩:=G61 (l:=y::r) (by simp);by_cases h:hU x.Slot m.Slot<=0
  .refine⟨x,List.mem_cons_self ..,fun z hz=>?_⟩;rcases Pv.1 hz with rfl | hz
   .rw [pV.refl]; exact Int.le_refl _
   .exact pV.trans _ _ _ h (h0 z hz)
  .refine⟨m,List.mem_cons_of_mem _ hm,fun z hz=>?_⟩;rcases Pv.1 hz with rfl | hz
   .have:=pV.anti z.Slot m.Slot; omega
   .exact h0 z hz
variable {a b:Slot}
theorem J2d (h:hU a b<=0):a.G5 < b.G5\/(a.G5=b.G5/\(a.AB < b.AB\/(a.AB=b.AB/\a.Half<=b.Half))):=by
 rw [HY] at h;unfold G09 at h;by_cases e1:eK a.G5 b.G5=0
 .have e1':=pM.1 e1;simp only [e1,ne_eq,not_true_eq_false,decide_false,cond_false] at h;by_cases e2:eK a.AB b.AB=0
  .have e2':=pM.1 e2;simp only [e2,ne_eq,not_true_eq_false,decide_false,cond_false] at h;exact .inr ⟨e1',.inr ⟨e2',G20.1 h⟩⟩
  .simp only [e2,ne_eq,not_false_eq_true,decide_true,cond_true] at h;exact .inr ⟨e1',.inl (kG.1 (by omega))⟩
 .simp only [e1,ne_eq,not_false_eq_true,decide_true,cond_true] at h;exact .inl (kG.1 (by omega))

theorem H88 {ts:AE}:∀ {F:Nat} {ids hs:AE} {l:AG},hs.length=ts.length->(∀ h∈hs,0<=h)->ids.length < F->(l.map (·.Box)).Perm ids->H90 ts hs l->l.Pairwise (fun a b=>a.Slot≠b.Slot)->∃ r∈gT ts F ids hs,r.Perm l
 | 0,_,_,_,_,_,h,_,_,_=>by omega
 | F+1,ids,hs,l,hl,hn,hF,hp,hP,hd=>by
  by_cases h8:l=[]
  .subst h8;have:ids=[]:=by simpa using hp.symm.eq_nil
   exact⟨[],G54.2 (.inl ⟨this,rfl⟩),List.Perm.refl _⟩
  .obtain⟨x,hx,h5⟩:=G61 h8;obtain⟨e0,c,e1,e2,e3,e4,e5⟩:=hP.place x hx;have h6:c < hs.length:=by omega
   have hh:hs.getD c 0=hs[c]:=by simp [List.getD,h6]
   have h0:0<=hs.getD c 0:=by rw [hh]; exact hn _ (List.getElem_mem h6)
   have ht:x.Slot.AB=hs.getD c 0:=by
    rcases hP.held x hx with h | ⟨y,hy,a2⟩
    .have:=h c e1; omega
    .have:=J2d (h5 y hy);rw [a2] at this;simp only at this;omega
   have a3:shut ts hs c=false:=Q17 (by omega) e5;have a1:x.Box∈ids:=hp.mem_iff.1 (List.mem_map_of_mem hx);obtain⟨i,hi,h9⟩:=List.mem_iff_getElem.1 a1;have hid:ids.getD i 0=x.Box:=by simp [List.getD,hi,h9]
   have h7:l.Perm (x::l.erase x):=List.perm_cons_erase hx;have a4:(⟨ids.getD i 0,⟨(c:Int),hs.getD c 0,0⟩⟩:G2)=x:=by
    obtain⟨bx,sl⟩:=x;obtain⟨sc,st,sh⟩:=sl;simp only at e0 e1 ht hid;rw [hid,<- e1,<- ht,e0]
   have h4:∀ y∈l.erase x,y∈l:=fun y hy=>List.mem_of_mem_erase hy;have a5:∀ y∈l.erase x,x.Slot≠y.Slot:=fun y hy=>by
    have a6:(x::l.erase x).Pairwise (fun a b=>a.Slot≠b.Slot):=h7.pairwise hd (fun h e=>h e.symm);exact(List.pairwise_cons.1 a6).1 y hy
   have gs:=H85 hs h6 (hs.getD c 0+1);have later:∀ y∈l.erase x,∀ cy:Nat,y.Slot.G5=(cy:Int)->c<=cy/\(cy=c->hs.getD c 0+1<=y.Slot.AB):=fun y hy cy ecy=>by
    have hm:=J2d (h5 y (h4 y hy));obtain⟨f0,_⟩:=hP.place y (h4 y hy);refine⟨by omega,fun e=>?_⟩;subst e;rcases hm with h | ⟨h1,h | ⟨h2,h3⟩⟩
    .omega
    .omega
    .refine(a5 y hy ?_).elim;obtain⟨bx,⟨sc,st,sh⟩⟩:=x;obtain⟨by_,⟨sc',st',sh'⟩⟩:=y;simp only at h1 h2 e0 f0;rw [h1,h2,e0,f0]
   have a7:H90 ts (hs.set c (hs.getD c 0+1)) (l.erase x):=by
    refine⟨fun y hy=>?_,fun y hy=>?_⟩
    .obtain⟨f0,cy,f1,f2,f3,f4,f5⟩:=hP.place y (h4 y hy);obtain⟨g1,g2⟩:=later y hy cy f1;refine⟨f0,cy,f1,f2,?_,f4,fun c' a8=>?_⟩
     .rw [gs];split
      .next h=>exact g2 h
      .exact f3
     .rw [gs,if_neg (by omega)]; exact f5 c' a8
    .obtain⟨f0,cy,f1,f2,f3,f4,f5⟩:=hP.place y (h4 y hy);obtain⟨g1,g2⟩:=later y hy cy f1;rcases hP.held y (h4 y hy) with h | ⟨z,hz,a0⟩
     .refine .inl fun c2 e=>?_;have ec:c2=cy:=by omega
      subst ec;have:=h c2 e;rw [gs];split
      .next h'=>have:=g2 h'; subst h'; omega
      .exact this
     .by_cases ez:z=x
      .subst ez;refine .inl fun c2 e=>?_;have ec:c2=cy:=by omega
       subst ec;rw [a0] at e1 ht;simp only at e1 ht;have:c2=c:=by omega
       subst this;rw [gs,if_pos rfl]; omega
      .exact .inr ⟨z,(List.mem_erase_of_ne ez).2 hz,a0⟩
   obtain⟨q,hq,a9⟩:=H88 (ts:=ts) (F:=F) (ids:=ids.eraseIdx i) (hs:=hs.set c (hs.getD c 0+1)) (l:=l.erase x) (by rw [List.length_set]; exact hl) (fun h hm=>by
    rcases List.mem_or_eq_of_mem_set hm with hm | rfl
    .exact hn h hm
    .omega) (by rw [List.length_eraseIdx_of_lt hi]; omega)
    (by
     have h1:(x.Box::(l.erase x).map (·.Box)).Perm ids:=((h7.map (fun y:G2=>y.Box)).symm.trans hp);have h2:(x.Box::ids.eraseIdx i).Perm ids:=by rw [<- h9]; exact G62 hi
     exact(List.perm_cons _).1 (h1.trans h2.symm))
    a7 (hd.sublist (List.erase_sublist ..))
   exact⟨_,G54.2 (.inr ⟨fun e=>by rw [e] at hi; simp at hi,c,i,q,e2,a3,hi,hq,rfl⟩),by rw [a4]; exact(a9.cons x).trans h7.symm⟩
open Go.RowKit Go.Sort

theorem G1e {W U:Type} {f:W->List U} {B:Nat}:∀ {l:List W},(∀ a∈l,(f a).length<=B)->(l.flatMap f).length<=l.length*B
 | [],_=>by simp
 | a::l,h=>by
  have h1:=h a (List.mem_cons_self ..);have h2:=G1e (l:=l) (fun b hb=>h b (List.mem_cons_of_mem _ hb));rw [List.flatMap_cons,Pn,Pi,Nat.add_mul,Nat.one_mul];omega
theorem G1f {ts:AE} {m:Nat} (hm:1<=ts.length*m):∀ {F:Nat} {ids hs:AE},ids.length<=m->(gT ts F ids hs).length<=(ts.length*m) ^ ids.length
 | 0,ids,hs,_=>by simp [gT]
 | F+1,ids,hs,h=>by
  rw [qJ];cases ids with
  | nil=>simp
  | cons a l=>
   simp only [List.isEmpty_cons,cond_false];refine Nat.le_trans (G1e (B:=m*(ts.length*m) ^ l.length) fun c _=>?_) ?_
   .cases shut ts hs c with
    | true=>simp
    | false=>
     simp only [cond_false];refine Nat.le_trans (G1e (B:=(ts.length*m) ^ l.length) fun i hi=>?_) (by rw [List.length_range]; exact Nat.mul_le_mul_right _ h);rw [Pr];have hl:((a::l).eraseIdx i).length=l.length:=by rw [List.length_eraseIdx_of_lt (List.mem_range.1 hi)]; simp
     have:=G1f hm (F:=F) (ids:=(a::l).eraseIdx i) (hs:=hs.set c (hs.getD c 0+1)) (by rw [hl]; simp at h; omega)
     rwa [hl] at this
   .rw [List.length_range,Pi,Nat.pow_succ,Nat.mul_comm _ (ts.length*m),Nat.mul_assoc];exact Pf
theorem HG {ts:AE}:∀ {F:Nat} {ids hs:AE},hs.length=ts.length->(∀ h∈hs,0<=h)->ids.Nodup->(gT ts F ids hs).Pairwise (fun a b=>¬ a.Perm b)
 | 0,_,_,_,_,_=>.nil
 | F+1,ids,hs,hl,hn,hd=>by
  have sound:=fun r (h:r∈gT ts (F+1) ids hs)=>HF hl hn h;rw [qJ] at sound ⊢;cases h8:ids.isEmpty with
  | true=>simp
  | false=>
   rw [h8,cond_false] at sound;rw [cond_false];have head:∀ c,c < ts.length->∀ r,(r∈bif shut ts hs c then [] else (List.range ids.length).flatMap fun i=>(gT ts F (ids.eraseIdx i) (hs.set c (hs.getD c 0+1))).map fun r=>(⟨ids.getD i 0,⟨(c:Int),hs.getD c 0,0⟩⟩:G2)::r)->∃ x q,r=x::q/\x.Slot=⟨(c:Int),hs.getD c 0,0⟩/\∀ y∈q,RE x y:=fun c hc r hr=>by
    have h9:=(sound r (List.mem_flatMap.2 ⟨c,List.mem_range.2 hc,hr⟩)).2.2;cases h0:shut ts hs c with
    | true=>rw [h0] at hr; simp at hr
    | false=>
     rw [h0] at hr;simp only [cond_false,List.mem_flatMap,List.mem_range,Pt] at hr;obtain⟨i,hi,q,hq,rfl⟩:=hr;exact⟨_,q,rfl,rfl,(List.pairwise_cons.1 h9).1⟩
   refine List.pairwise_flatMap.2 ⟨fun c hc=>?_,(List.pairwise_lt_range).imp_of_mem fun {c1 c2} h1 h2 h5 a ha b hb hp=>?_⟩
   .have a0:=List.mem_range.1 hc;have h6:=head c a0;cases h0:shut ts hs c with
    | true=>exact .nil
    | false=>
     rw [h0,cond_false] at h6;rw [cond_false];refine List.pairwise_flatMap.2 ⟨fun i hi=>List.pairwise_map.2 ?_,(List.pairwise_lt_range).imp_of_mem fun {i1 i2} h1 h2 h5 a ha b hb hp=>?_⟩
     .have a1:=List.mem_range.1 hi;have h7:c < hs.length:=by omega
      refine(HG (F:=F) (ids:=ids.eraseIdx i) (hs:=hs.set c (hs.getD c 0+1)) (by rw [List.length_set]; exact hl) (fun h hm=>by
       rcases List.mem_or_eq_of_mem_set hm with hm | rfl
       .exact hn h hm
       .have:hs.getD c 0=hs[c]:=by simp [List.getD,h7]
        have:=hn _ (List.getElem_mem h7);omega) (hd.sublist (List.eraseIdx_sublist ..))).imp fun h hp=>h ((List.perm_cons _).1 hp)
     .have g1:=List.mem_range.1 h1;have g2:=List.mem_range.1 h2;obtain⟨x,q,e,hx,h3⟩:=h6 a (List.mem_flatMap.2 ⟨i1,h1,ha⟩);obtain⟨q1,_,rfl⟩:=Pt.1 ha;obtain⟨q2,_,rfl⟩:=Pt.1 hb;injection e with e1 e2;subst e1;subst e2;have hm:(⟨ids.getD i2 0,⟨(c:Int),hs.getD c 0,0⟩⟩:G2)∈(⟨ids.getD i1 0,⟨(c:Int),hs.getD c 0,0⟩⟩:G2)::q1:=hp.mem_iff.2 (List.mem_cons_self ..);rcases Pv.1 hm with e | hm
      .injection e with e _;have n1:ids.getD i1 0=ids[i1]:=by simp [List.getD,g1]
       have n2:ids.getD i2 0=ids[i2]:=by simp [List.getD,g2]
       rw [n1,n2] at e;have:=(List.pairwise_iff_getElem.1 hd) i1 i2 g1 g2 h5;exact this e.symm
      .have:=h3 _ hm;rcases this with h | ⟨_,h⟩
       .exact Int.lt_irrefl _ h
       .exact Int.lt_irrefl _ h
   .obtain⟨x,q,rfl,hx,h3⟩:=head c1 (List.mem_range.1 h1) a ha;obtain⟨y,p,rfl,hy,h4⟩:=head c2 (List.mem_range.1 h2) b hb;have hm:x∈y::p:=hp.mem_iff.1 (List.mem_cons_self ..);rcases Pv.1 hm with e | hm
    .rw [e,hy] at hx;injection hx with h _;omega
    .have:=h4 _ hm;unfold RE at this;rw [hx,hy] at this;simp only at this;omega

def Q33 (a b:G2):Int:=eK a.Box b.Box
theorem G69:Cmp Q33:=JZ (fun x:G2=>x.Box)
theorem Hf7 (a b:G2):aC a b=some (Q33 a b):=by unfold aC; rw [J43]; rfl
def canon (l:AG):AG:=vR Q33 l
variable {l:AG}
theorem JJ (h:(l.map (·.Box)).Nodup):∀ a∈l,∀ b∈l,a.Box=b.Box->a=b:=fun a ha b hb e=>by
 obtain⟨i,hi,rfl⟩:=List.mem_iff_getElem.1 ha;obtain⟨j,hj,rfl⟩:=List.mem_iff_getElem.1 hb;have:=List.pairwise_iff_getElem.1 h;rcases Nat.lt_trichotomy i j with h0 | rfl | h1
 .exact(this i j (by simpa using hi) (by simpa using hj) h0 (by simpa using e)).elim
 .rfl
 .exact(this j i (by simpa using hj) (by simpa using hi) h1 (by simpa using e.symm)).elim
theorem ZE (h:(l.map (·.Box)).Nodup) (hl:l.length<=1000):ZF (fun z0 z1=>aC z0 z1) l=some (canon l):=
 Hfa G69.ordc Hf7 (fun a ha b hb h1 h2=>JJ h a ha b hb (by
  have e1:¬ a.Box < b.Box:=fun h=>h1 (kG.2 h);have e2:¬ b.Box < a.Box:=fun h=>h2 (kG.2 h);omega)) (by omega)
theorem eL (l:AG):(canon l).Perm l:=bU _ _
theorem pN (hp:(l.map (·.Box)).Perm ids) (hs:ids.Pairwise (· < ·)):(canon l).map (·.Box)=ids:=by
 have h1:((canon l).map (·.Box)).Pairwise (fun a b:Int=>a<=b):=List.pairwise_map.2 ((cT G69.ordc l).imp fun {a b} h=>by
  have:¬ b.Box < a.Box:=fun h'=>h (kG.2 h');omega)
 exact List.Perm.eq_of_pairwise (le:=fun a b:Int=>a<=b) (fun a b _ _ h1 h2=>Int.le_antisymm h1 h2) h1 (hs.imp fun h=>Int.le_of_lt h) (((eL l).map _).trans hp)
theorem Jc4 {a b:AG} (hp:a.Perm b) (hd:(b.map (·.Box)).Pairwise (· < ·)):canon a=b:=by
 have h1:=cT G69.ordc a;refine List.Perm.eq_of_pairwise (le:=G0a Q33) (fun x y hx hy h1 h2=>?_) h1 ?_ ((eL a).trans hp)
 .have hn:(b.map (·.Box)).Nodup:=hd.imp fun h=>by omega
  exact JJ hn x (hp.mem_iff.1 ((eL a).mem_iff.1 hx)) y hy (by
   have e1:¬ y.Box < x.Box:=fun h=>h1 (kG.2 h);have e2:¬ x.Box < y.Box:=fun h=>h2 (kG.2 h);omega)
 .exact(List.pairwise_map.1 hd).imp fun {x y} h h'=>by have:=kG.1 h'; omega
open Go.RowKit Go.Sort

theorem xP (n c:Nat):(List.replicate n (0:Int)).getD c 0=0:=by
 simp only [List.getD,List.getElem?_replicate]; split <;> rfl
theorem Gfa:∀ {a b:AG},a.map (·.Box)=b.map (·.Box)->a.map (·.Slot)=b.map (·.Slot)->a=b
 | [],[],_,_=>rfl
 | [],_::_,h,_=>by simp at h
 | _::_,[],h,_=>by simp at h
 | x::a,y::b,h1,h2=>by
  simp only [List.map_cons,List.cons.injEq] at h1 h2;rw [Gfa h1.2 h2.2];obtain⟨bx,sx⟩:=x;obtain⟨by_,sy⟩:=y;simp only at h1 h2;rw [h1.1,h2.1]
def aR (s:Gf):AE:=s.Columns.map (·.AC)
def jG (F:Nat) (s:Gf) (ids:AE):List AG:=gT (aR s) F ids (List.replicate s.Columns.length 0)
structure Whole (GU:AH) (ids:AE):Prop where
 sorted:ids.Pairwise (· < ·)
 size:∀ id∈ids,∃ b,bC GU id=some b/\b.Size=40
variable {s:Gf} {GU:AH}
theorem ZJ (hw:Whole GU ids) (h:dJ s GU l) (hm:l.map (·.Box)=ids):H90 (aR s) (List.replicate s.Columns.length 0) l/\l.Pairwise (fun a b=>a.Slot≠b.Slot):=by
 have ok:∀ x∈l,yG s x.Slot 40:=fun x hx=>by
  obtain⟨b,h1,h2,_⟩:=h.each x hx;obtain⟨b',h3,h4⟩:=hw.size x.Box (by rw [<- hm]; exact List.mem_map_of_mem hx);rw [h1] at h3; cases h3
  rwa [h4] at h2
 have half:∀ x∈l,x.Slot.Half=0:=fun x hx=>by
  have:=(ok x hx).half;simpa [sH] using this
 refine⟨⟨fun x hx=>?_,fun x hx=>?_⟩,h.apart.imp fun {a b} hn e=>hn ?_⟩
 .obtain⟨m,c,h1,h2,h3⟩:=(ok x hx).col;have h0:m < s.Columns.length:=(Pa h2).1;refine⟨half x hx,m,h1,by unfold aR; rw [Pr]; exact h0,by rw [xP]; exact(ok x hx).tier,?_,fun c' _=>by rw [xP]; exact Int.le_refl _⟩;have:(aR s).getD m 0=c.AC:=by unfold aR; simp [List.getD,h2]
  rw [this]; exact h3
 .obtain⟨b,_,_,h1⟩:=h.each x hx;have out:∀ hf:Int,below (l.map (·.Slot)) x.Slot hf->∃ y∈l,y.Slot=⟨x.Slot.G5,x.Slot.AB - 1,hf⟩:=fun hf hb=>by
   obtain⟨y,hy,e⟩:=Pt.1 hb;exact⟨y,hy,e⟩
  rcases h1 with h1 | h1 | ⟨_,h1,_⟩
  .exact .inl fun c _=>by rw [xP]; exact h1
  .rw [half x hx] at h1;exact .inr (out 0 h1)
  .obtain⟨y,hy,e⟩:=out 1 h1;have:=half y hy;rw [e] at this; cases this
 .rw [e];exact⟨rfl,rfl,.inl rfl⟩
theorem pP {r:AG} (h:r∈jG F s ids):(r.map (·.Box)).Perm ids/\H90 (aR s) (List.replicate s.Columns.length 0) r/\r.Pairwise RE:=
 HF (by unfold aR; simp) (fun h hh=>by rw [List.mem_replicate] at hh; omega) h
theorem J9a (hw:Whole GU ids) (hF:ids.length < F) (h:dJ s GU l) (hm:l.map (·.Box)=ids):∃ r∈jG F s ids,canon r=l:=by
 obtain⟨h1,h2⟩:=ZJ hw h hm;obtain⟨r,hr,hp⟩:=H88 (F:=F) (ids:=ids) (by unfold aR; simp) (fun h hh=>by rw [List.mem_replicate] at hh; omega) hF (by rw [hm]) h1 h2;exact⟨r,hr,Jc4 hp (by rw [hm]; exact hw.sorted)⟩

structure H0e (F:Nat) (s:Gf) (GU:AH) (ids:AE) (R:List AG):Prop where
 sorted:R.Pairwise (fun a b=>aG a b < 0)
 mem:∀ l,l∈R ↔ dJ s GU l/\l.map (·.Box)=ids
 count:(∀ r∈jG F s ids,dJ s GU (canon r))->R.length=(jG F s ids).length
 le:R.length<=(jG F s ids).length
theorem ZC (hr:Z8 s=some true) (hc:s.Columns.length<=1000) (ht:∀ c∈s.Columns,c.AC<=1000000) (hw:Whole GU ids) (hl:ids.length<=1000) (hF:ids.length < F) (hn:(jG F s ids).length<=1000000) :
  Wp (R4 F s GU ids) (H0e F s GU ids):=by
 have h9:ids.Nodup:=hw.sorted.imp fun h=>by omega
 unfold R4;have a6:mH (s.Columns.length:Int)=some s.Columns.length:=by unfold mH; rw [P8 (by omega)]; simp
 refine H2 a6 (Yt (P8 ⟨by omega,Nat.le_trans hc (by decide),by omega⟩) ?_);refine H2 (x:=()) rfl ?_;refine H2 (Gdd s F ids (List.replicate s.Columns.length 0) (by simp) hc (fun h hh=>by rw [List.mem_replicate] at hh; omega) hF hl) ?_;show Wp (each _ _ (jG F s ids) 0 []) _
 have a0:(jG F s ids).Pairwise (fun a b=>¬ a.Perm b):=HG (by unfold aR; simp) (fun h hh=>by rw [List.mem_replicate] at hh; omega) h9;refine Q6 (fun pre s18=>s18.length<=pre.length/\s18.Pairwise (fun a b=>aG a b≠0)/\(∀ l,l∈s18 ↔ dJ s GU l/\∃ r∈pre,canon r=l)/\((∀ r∈pre,dJ s GU (canon r))->s18.length=pre.length))
  ⟨Pf,.nil,fun l=>⟨fun h=>(Pe h).elim,fun⟨_,r,h,_⟩=>(Pe h).elim⟩,fun _=>rfl⟩ (fun pre y post s18 nx e hI a1=>?_) (fun s18 hI=>?_)
 .obtain⟨i1,i2,i3,i4⟩:=hI;have hy:y∈jG F s ids:=by rw [e]; simp
  obtain⟨w1,w2,w3⟩:=pP hy;have a8:y.length=ids.length:=by have:=w1.length_eq; simpa using this
  have a7:=pN w1 hw.sorted;refine H2 (ZE (w1.nodup_iff.2 h9) (by omega)) ?_;have b6:(canon y).length=ids.length:=by rw [(eL y).length_eq,a8]
  refine Hq (wp_mono (GT hr ht (by omega)) fun b hb=>?_);have b5:pre.length < (jG F s ids).length:=by rw [e]; simp
  refine Ja (fun a9=>?_) (fun a2=>?_)
  .have hR:=hb.1 a9;refine Yt ?_ (a1 _ ⟨?_,?_,fun l=>?_,fun h0=>?_⟩)
   .refine P8 ⟨?_,?_⟩
    .rw [Po]; omega
    .rw [Po]; exact Nat.le_trans (by omega:s18.length+1<=1000001) (by decide)
   .simp only [Pn,Po]; omega
   .refine List.pairwise_append.2 ⟨i2,List.pairwise_singleton ..,fun a ha b a3=>?_⟩;rw [Pu] at a3;subst a3;intro hz;obtain⟨_,r,a4,h4⟩:=(i3 a).1 ha;obtain⟨v1,_,_⟩:=pP (F:=F) (s:=s) (ids:=ids) (r:=r) (by rw [e]; simp [a4]);have b0:a.map (·.Box)=ids:=by rw [<- h4]; exact pN v1 hw.sorted
    have b1:a=canon y:=Gfa (by rw [b0,a7]) (RM hz);have h5:r.Perm y:=(eL r).symm.trans (by rw [h4,b1]; exact eL y);rw [e] at a0;exact(List.pairwise_append.1 a0).2.2 r a4 y (List.mem_cons_self ..) h5
   .rw [Ps,Pu,i3];constructor
    .rintro(⟨h1,r,h2,h3⟩ | rfl)
     .exact⟨h1,r,List.mem_append_left _ h2,h3⟩
     .exact⟨hR,y,by simp,rfl⟩
    .rintro⟨h1,r,h2,h3⟩;rcases Ps.1 h2 with h2 | h2
     .exact .inl ⟨h1,r,h2,h3⟩
     .rw [Pu] at h2;subst h2;exact .inr h3.symm
   .simp only [Pn,Po];rw [i4 fun r hr=>h0 r (List.mem_append_left _ hr)]
  .have hR:¬ dJ s GU (canon y):=fun h=>by rw [hb.2 h] at a2; cases a2
   refine a1 _ ⟨by simp only [Pn,Po]; omega,i2,fun l=>?_,fun h0=>(hR (h0 y (by simp))).elim⟩;rw [i3];constructor
   .rintro⟨h1,r,h2,h3⟩;exact⟨h1,r,List.mem_append_left _ h2,h3⟩
   .rintro⟨h1,r,h2,h3⟩;rcases Ps.1 h2 with h2 | h2
    .exact⟨h1,r,h2,h3⟩
    .rw [Pu] at h2;subst h2;rw [h3] at hR;exact(hR h1).elim
 .obtain⟨i1,i2,i3,i4⟩:=hI;have h6:∀ a∈s18,∀ b∈s18,aG a b=0->a=b:=fun a ha b hb h=>by
   obtain⟨i,hi,rfl⟩:=List.mem_iff_getElem.1 ha;obtain⟨j,hj,rfl⟩:=List.mem_iff_getElem.1 hb;have hp:=List.pairwise_iff_getElem.1 i2;rcases Nat.lt_trichotomy i j with b2 | rfl | b3
   .exact(hp i j hi hj b2 h).elim
   .rfl
   .have:=fE.anti s18[i] s18[j];exact(hp j i hj hi b3 (by omega)).elim
  have h7:∀ r',r'.Perm s18->dV aG r'->r'=vR aG s18:=fun r' hp hs=>by
   refine List.Perm.eq_of_pairwise (le:=G0a aG) (fun a b ha hb h1 h2=>?_) (hs.imp fun h=>P7 h) (cT fE.ordc s18) (hp.trans (bU _ _).symm);have:=fE.anti a b;exact h6 a (hp.mem_iff.1 ha) b ((bU _ _).mem_iff.1 hb) (by omega)
  have h8:vI (fun z0 z1=>Zp z0 z1) s18=some (vR aG s18):=Gc7 aG xY (Gf9 fE.ordc) (by omega) (bU _ _) ((cT fE.ordc s18).imp fun h=>P9 h) h7;refine H2 h8 (Gt ⟨?_,fun l=>?_,fun h=>?_,?_⟩)
  .have b4:(vR aG s18).Pairwise (fun a b=>aG a b≠0):=(bU aG s18).symm.pairwise i2 (fun {a b} h e=>h (by have:=fE.anti a b; omega));refine(List.pairwise_iff_getElem.2 fun i j hi hj a5=>?_);have h1:=(List.pairwise_iff_getElem.1 (cT fE.ordc s18)) i j hi hj a5;have h2:=(List.pairwise_iff_getElem.1 b4) i j hi hj a5;have:=fE.anti (vR aG s18)[i] (vR aG s18)[j];omega
  .rw [G5b,i3];constructor
   .rintro⟨h1,r,h2,rfl⟩;exact⟨h1,pN (pP h2).1 hw.sorted⟩
   .rintro⟨h1,h2⟩;obtain⟨r,hr,h4⟩:=J9a hw hF h1 h2;exact⟨h1,r,hr,h4⟩
  .rw [ZS]; exact i4 h
  .rw [ZS]; exact i1
set_option linter.unusedVariables false

def fS (s:Gf):List Slot:=(List.range s.Columns.length).flatMap (fun c:Nat=>(List.range ((s.Columns.map G5.AC).getD c 0).toNat).map (fun t:Nat=>Slot.mk (c:Int) (t:Int) 0))
def oR (R:AG->Bool) (sl:List Slot):AE->AG->List AG
 | [],l=>if R l then [l] else []
 | id::r,l=>sl.flatMap (fun x=>if l.any (fun y=>decide (y.Slot=x)) then [] else oR R sl r (l++[G2.mk id x]))
theorem G18 {R:AG->Bool} {sl:List Slot}:∀ {ids:AE} {l q:AG},q∈oR R sl ids l->∃ t,q=l++t/\t.map (·.Box)=ids/\R q=true
 | [],l,q,h=>by
  unfold oR at h;split at h
  .rename_i hR;rw [Pu] at h;subst h;exact⟨[],(List.append_nil _).symm,rfl,hR⟩
  .cases h
 | id::r,l,q,h=>by
  rw [oR,List.mem_flatMap] at h;obtain⟨x,hx,h⟩:=h;split at h
  .cases h
  .obtain⟨t,e1,e2,e3⟩:=G18 h;exact⟨G2.mk id x::t,by rw [e1,List.append_assoc]; rfl,by rw [List.map_cons,e2],e3⟩
theorem H7e:∀ {p a b:AG},aG (p++a) (p++b)=aG a b
 | [],a,b=>rfl
 | x::p,a,b=>by
  have e:aG (x::(p++a)) (x::(p++b))=bif decide (hU x.Slot x.Slot≠0) then hU x.Slot x.Slot else aG (p++a) (p++b):=rfl;rw [List.cons_append,List.cons_append,e,pV.refl x.Slot,show decide ((0:Int)≠0)=false from rfl,cond_false];exact H7e
theorem G4f {R:AG->Bool} {sl:List Slot} (hs:sl.Pairwise (fun a b=>hU a b < 0)):∀ {ids:AE} {l:AG},(oR R sl ids l).Pairwise (fun a b=>aG a b < 0)
 | [],l=>by
  unfold oR;split
  .exact List.pairwise_singleton ..
  .exact List.Pairwise.nil
 | id::r,l=>by
  rw [oR,List.pairwise_flatMap];refine⟨fun x _=>?_,hs.imp fun {x y} h0 a ha b hb=>?_⟩
  .split
   .exact List.Pairwise.nil
   .exact G4f hs
  .split at ha
   .cases ha
   split at hb
   .cases hb
   obtain⟨t,e1,_⟩:=G18 ha;obtain⟨u,e2,_⟩:=G18 hb;rw [e1,e2,List.append_assoc,List.append_assoc,H7e];show aG (G2.mk id x::t) (G2.mk id y::u) < 0
   unfold aG;rw [show decide (hU x y≠0)=true from P8 (by omega)];exact h0
theorem J32 {R:AG->Bool} {sl:List Slot}:∀ {ids:AE} {l t:AG},R (l++t)=true->t.map (·.Box)=ids->(∀ x∈t,x.Slot∈sl)->(l++t).Pairwise (fun a b=>a.Slot≠b.Slot)->l++t∈oR R sl ids l
 | ids,l,[],hR,hm,_,_=>by
  have:ids=[]:=hm.symm;subst this;rw [List.append_nil] at hR ⊢;unfold oR;rw [if_pos hR];exact Pu.2 rfl
 | ids,l,x::t,hR,hm,h0,hp=>by
  have:ids=x.Box::t.map (·.Box):=hm.symm;subst this;rw [oR,List.mem_flatMap];refine⟨x.Slot,h0 x (List.mem_cons_self ..),?_⟩;rw [if_neg (fun h=>by
   obtain⟨y,hy,e⟩:=List.any_eq_true.1 h;exact(List.pairwise_append.1 hp).2.2 y hy x (List.mem_cons_self ..) (P6 e))]
  have e:l++x::t=(l++[G2.mk x.Box x.Slot])++t:=by rw [List.append_assoc]; rfl
  rw [e] at hR hp ⊢;exact J32 hR rfl (fun y hy=>h0 y (List.mem_cons_of_mem _ hy)) hp
theorem H6e (a b:Slot):hU a b=bif decide (eK a.G5 b.G5≠0) then eK a.G5 b.G5 else bif decide (eK a.AB b.AB≠0) then eK a.AB b.AB else eK a.Half b.Half:=(HY a b).trans rfl
theorem Ja5 (h:a.G5 < b.G5):hU a b < 0:=by
 rw [H6e,show decide (eK a.G5 b.G5≠0)=true from P8 (by have:=kG.2 h; omega)];exact kG.2 h
theorem J67 (hc:a.G5=b.G5) (h:a.AB < b.AB):hU a b < 0:=by
 rw [H6e,pM.2 hc,show decide ((0:Int)≠0)=false from rfl,cond_false,show decide (eK a.AB b.AB≠0)=true from P8 (by have:=kG.2 h; omega)];exact kG.2 h
theorem G45 (s:Gf):(fS s).Pairwise (fun a b=>hU a b < 0):=by
 unfold fS;rw [List.pairwise_flatMap];refine⟨fun c _=>List.pairwise_map.2 (List.pairwise_lt_range.imp fun {i j:Nat} (h0:i < j)=>J67 (a:=Slot.mk (c:Int) (i:Int) 0) (b:=Slot.mk (c:Int) (j:Int) 0) rfl (by show (i:Int) < (j:Int); omega)),List.pairwise_lt_range.imp fun {c d:Nat} (h1:c < d) a ha b hb=>?_⟩;obtain⟨t,_,rfl⟩:=Pt.1 ha;obtain⟨u,_,rfl⟩:=Pt.1 hb;exact Ja5 (a:=Slot.mk (c:Int) (t:Int) 0) (b:=Slot.mk (d:Int) (u:Int) 0) (by show (c:Int) < (d:Int); omega)
theorem H69 {x:Slot} (h:yG s x 40):x∈fS s:=by
 obtain⟨m,c,h1,h2,h3⟩:=h.col;have ht:=h.tier;have hh:x.Half=0:=by have:=h.half; simpa [sH] using this
 have hm:=(Pa h2).1;unfold fS;refine List.mem_flatMap.2 ⟨m,List.mem_range.2 hm,Pt.2 ⟨x.AB.toNat,List.mem_range.2 ?_,?_⟩⟩
 .have:(s.Columns.map G5.AC).getD m 0=c.AC:=by simp [List.getD,h2]
  rw [this]; omega
 .cases x;simp only [Slot.mk.injEq] at h1 ht hh ⊢;exact⟨h1.symm,by omega,hh.symm⟩
theorem J04 {R:List AG} {q:AG->Bool} (hq:∀ l,l.length<=ids.length->(q l=true ↔ dJ s GU l)) (hw:Whole GU ids) (h:H0e F s GU ids R):oR q (fS s) ids []=R:=by
 have h0:∀ l,l∈oR q (fS s) ids [] ↔ l∈R:=fun l=>by
  rw [h.mem];refine⟨fun hl=>?_,fun⟨h1,h2⟩=>?_⟩
  .obtain⟨t,e1,e2,e3⟩:=G18 hl;rw [List.nil_append] at e1;subst e1;exact⟨(hq l (by rw [<- e2,Pr]; exact Pf)).1 e3,e2⟩
  .obtain⟨_,h3⟩:=ZJ hw h1 h2;have:=J32 (R:=q) (sl:=fS s) (ids:=ids) (l:=[]) (t:=l) ((hq l (by rw [<- h2,Pr]; exact Pf)).2 h1) h2 (fun x hx=>?_) h3
   .exact this
   .obtain⟨b,g1,g2,_⟩:=h1.each x hx;obtain⟨b',g3,g4⟩:=hw.size x.Box (by rw [<- h2]; exact List.mem_map_of_mem hx);rw [g1] at g3; cases g3;rw [g4] at g2;exact H69 g2
 have anti:∀ a b:AG,aG a b < 0->aG b a < 0->a=b:=fun a b h1 h2=>by have:=yX a b; omega
 have irr:∀ a:AG,¬ aG a a < 0:=fun a h=>by have:=yX a a; omega
 have nd:∀ {l:List AG},l.Pairwise (fun a b=>aG a b < 0)->l.Nodup:=fun h=>h.imp fun {a b} h4 e=>by subst e; exact irr a h4
 have hp:=G4f (R:=q) (G45 s) (ids:=ids) (l:=[]);exact List.Perm.eq_of_pairwise (le:=fun x y:AG=>aG x y < 0) (fun x y _ _ h1 h2=>anti x y h1 h2) hp h.sorted ((List.perm_ext_iff_of_nodup (nd hp) (nd h.sorted)).2 h0)
end Go.Proofs.YtbgfgnddogfpcaaGreat
