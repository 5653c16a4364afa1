/- The chain that bound.chain and the reference's chains choose -/
import Derived.Test.YthkihfoleenlmaaGreatTellDf
set_option maxRecDepth 100000
namespace Go.Proofs.YthkihfoleenlmaaGreat
open Go.RowKit

def wtC (c:G1):Int:=2*c.Whole+c.Half
def cX (a b:G1):Bool:=decide (a.G5.Load < b.G5.Load)&&decide (a.G5.Discharge < b.G5.Discharge)
def chn:List G1→(G1→Bool)→List G1×Int
 | [],_=>([],0)
 | c::r,P=>if P c&&decide ((chn r P).2≤(chn r (cX c)).2+wtC c) then (c::(chn r (cX c)).1,(chn r (cX c)).2+wtC c) else chn r P
def sW (on:List G1) (k:Nat):List G1×Int:=match on.drop k with
 | []=>([],0)
 | c::r=>(c::(chn r (cX c)).1,(chn r (cX c)).2+wtC c)
theorem xX {on:List G1} {k:Nat} {c:G1} (h:on[k]? = some c):sW on k=(c::(chn (on.drop (k+1)) (cX c)).1,(chn (on.drop (k+1)) (cX c)).2+wtC c):=by
 obtain⟨hk,rfl⟩:=Nt h
 unfold sW
 rw [List.drop_eq_getElem_cons hk]
theorem H3c {on:List G1} {k:Nat} {c:G1} {P:G1→Bool} (h:on[k]? = some c):chn (on.drop k) P=if P c&&decide ((chn (on.drop (k+1)) P).2≤(sW on k).2) then sW on k else chn (on.drop (k+1)) P:=by
 rw [xX h]
 obtain⟨hk,rfl⟩:=Nt h
 rw [List.drop_eq_getElem_cons hk,chn]
theorem G5d:∀ {l:List G1} {P:G1→Bool},(∀ c∈(chn l P).1,c∈l)∧(∀ c∈(chn l P).1.head?,P c=true)∧(chn l P).1.Pairwise (fun a b=>cX a b=true)
 | [],P=>⟨fun c h=>h,fun c h=>(by cases h),List.Pairwise.nil⟩
 | c::r,P=>by
  rw [chn]
  split
  ·rename_i h
   rw [P7] at h
   obtain⟨h1,h2,h3⟩:=@G5d r (cX c)
   refine⟨fun d hd=>?_,fun d hd=>(by cases hd; exact h.1),List.pairwise_cons.2 ⟨fun d hd=>?_,h3⟩⟩
   ·rcases Pd.1 hd with rfl | hd
    ·exact List.mem_cons_self ..
    ·exact List.mem_cons_of_mem _ (h1 d hd)
   ·generalize hq:(chn r (cX c)).1=q at hd h2 h3
    cases q with
    | nil=>cases hd
    | cons x q=>
     have hx:=h2 x rfl
     rcases Pd.1 hd with rfl | hd
     ·exact hx
     ·have:=(List.pairwise_cons.1 h3).1 d hd
      unfold cX at hx this ⊢
      simp only [P7,P8] at hx this ⊢
      omega
  ·obtain⟨h1,h2,h3⟩:=@G5d r P
   exact⟨fun d hd=>List.mem_cons_of_mem _ (h1 d hd),h2,h3⟩
theorem GE:∀ {l:List G1} {P:G1→Bool},(∀ c∈l,1≤wtC c∧wtC c≤36)→0≤(chn l P).2∧(chn l P).2≤36*(l.length:Int)∧((chn l P).2=0→(chn l P).1=[])
 | [],P,_=>⟨Int.le_refl _,Int.le_refl _,fun _=>rfl⟩
 | c::r,P,h=>by
  have hc:=h c (List.mem_cons_self ..)
  have hr:∀ c∈r,1≤wtC c∧wtC c≤36:=fun d hd=>h d (List.mem_cons_of_mem _ hd)
  obtain⟨a1,a2,a3⟩:=@GE r (cX c) hr
  obtain⟨b1,b2,b3⟩:=@GE r P hr
  rw [chn,P1]
  split
  ·exact⟨by simp only; omega,by simp only; omega,fun h=>by simp only at h; omega⟩
  ·exact⟨b1,by omega,b3⟩
theorem H57 {on:List G1} (h:∀ c∈on,1≤wtC c∧wtC c≤36) {k:Nat} (hk:k < on.length):1≤(sW on k).2∧(sW on k).2≤36*((on.length:Int) - k):=by
 have e:on[k]? = some on[k]:=Nu hk
 obtain⟨a1,a2,_⟩:=GE (P:=cX on[k]) (l:=on.drop (k+1)) (fun c hc=>h c (List.mem_of_mem_drop hc))
 have:=h on[k] (List.getElem_mem hk)
 rw [xX e]
 rw [List.length_drop] at a2
 simp only
 omega
def onL (counts:List G1) (call:Int):List G1:=counts.filter (fun c=>decide (c.G5.Load≤call)&&decide (call < c.G5.Discharge))
def G6f (on:List G1) (t:List G1×Int) (k:Nat) (y:Int):Prop:=(y = -1∧t=([],0))∨∃ m:Nat,y=(m:Int)∧k≤m∧m < on.length∧t=sW on m
def Hd4 (on:List G1) (j:Nat) (y:Int):Prop:=∀ c,on[j]? = some c→G6f on (chn (on.drop (j+1)) (cX c)) (j+1) y
structure Hd0 (on:List G1) (i:Int) (sum next:List Int):Prop where
 len1:sum.length=on.length
 len2:next.length=on.length
 lo:∀ j:Nat,j < on.length→(j:Int)≤i→sum[j]? = some 0
 hi:∀ j:Nat,i < (j:Int)→j < on.length→sum[j]? = some (sW on j).2
 nexts:∀ j:Nat,i < (j:Int)→j < on.length→∃ y,next[j]? = some y∧Hd4 on j y
structure G65 (on:List G1) (i k:Nat) (ci:G1) (sum next:List Int):Prop where
 len1:sum.length=on.length
 len2:next.length=on.length
 lo:∀ j:Nat,j < i→sum[j]? = some 0
 hi:∀ j:Nat,i < j→j < on.length→sum[j]? = some (sW on j).2
 mid:sum[i]? = some (chn (on.drop (k+1)) (cX ci)).2
 nxt:∃ y,next[i]? = some y∧G6f on (chn (on.drop (k+1)) (cX ci)) (k+1) y
 nexts:∀ j:Nat,i < j→j < on.length→∃ y,next[j]? = some y∧Hd4 on j y
theorem Gba (n:Nat):iM (n:Int)=some n:=by
 unfold iM
 rw [Nr (by omega),cond_true]
 congr 1
theorem mG {l:List Int} {i:Nat} {v:Int} (hi:i < l.length) (j:Nat):(l.set (i:Int).toNat v)[j]? = if j=i then some v else l[j]? := by
 rw [show ((i:Int)).toNat=i by omega,List.getElem?_set]
 by_cases e:j=i
 ·subst e; rw [if_pos rfl,if_pos hi,if_pos rfl]
 ·rw [if_neg (Ne.symm e),if_neg e]
theorem H84 {c:G1} (hc:Zi c):fO c=some (wtC c):=by
 obtain⟨⟨w1,w2⟩,⟨v1,v2⟩⟩:=hc
 refine gA ?_
 unfold fO
 exact Ji ⟨by omega,by omega⟩ (Ji ⟨by omega,by omega⟩ (H4 rfl))
theorem uF {α:Type} {p:α→Bool} {l:List α} {y:α}:(l++[y]).filter p=if p y then l.filter p++[y] else l.filter p:=by
 rw [List.filter_append,List.filter_cons,List.filter_nil]
 split <;> simp

theorem Hcd {F:Nat} {counts:List G1} {call:Int} (hc:∀ c∈counts,Zi c∧1≤wtC c) (hl:counts.length≤12) (hF:60≤F) :
  cY F counts call=some (chn (onL counts call) (fun _=>true)).1:=by
 refine gA ?_
 unfold cY
 refine Rv (fun pre on=>on=onL pre call) rfl (fun pre y post on nx e hI a2=>?_) (fun on hI=>?_)
 ·have hp:pre.length < 12:=by rw [e] at hl; simp only [P5,P1] at hl; omega
  have hq:on.length≤pre.length:=by rw [hI]; exact Nk ..
  have hs:onL (pre++[y]) call=if decide (y.G5.Load≤call)&&decide (call < y.G5.Discharge) then on++[y] else on:=by rw [hI]; exact uF
  refine lW (fun j=>j=onL (pre++[y]) call) (fun K hK=>J8 (fun h=>?_) (fun h=>hK _ ?_)) (fun j hj=>a2 _ hj)
  ·exact Z0 (mH (by rw [P6]; omega) (by omega)) (hK _ (by rw [hs,if_pos h]))
  ·rw [hs,h]; rfl
 generalize a9:onL counts call=on0 at hI ⊢
 subst hI
 have hn:on.length≤12:=by
  have:on.length≤counts.length:=by rw [← a9]; exact Nk ..
  omega
 have hw:∀ c∈on,Zi c∧1≤wtC c∧wtC c≤36:=fun c h=>by
  rw [← a9] at h
  obtain⟨a,b⟩:=hc c (Pe.1 h).1
  obtain⟨⟨w1,w2⟩,⟨v1,v2⟩⟩:=a
  exact⟨⟨⟨w1,w2⟩,⟨v1,v2⟩⟩,b,by unfold wtC; omega⟩
 have a3:∀ c∈on,1≤wtC c∧wtC c≤36:=fun c h=>(hw c h).2
 refine Hh (Gba on.length) (Z0 (Nr (by simp only [maxLen]; omega)) (Hh (Gba on.length) (Z0 (Nr (by simp only [maxLen]; omega)) (Ji ⟨by omega,by omega⟩ ?_))))
 refine wp_loop (fun s:Int×Int×List Int×List Int => -1≤s.2.1∧s.2.1 < (on.length:Int)∧Hd0 on s.2.1 s.2.2.1 s.2.2.2∧G6f on (chn (on.drop (s.2.1+1).toNat) (fun _=>true)) (s.2.1+1).toNat s.1) (fun s=>(s.2.1+1).toNat)
  ⟨by show (-1:Int)≤(on.length:Int) - 1; omega,by show (on.length:Int) - 1 < _; omega,⟨by simp,by simp,fun j hj _=>by rw [List.getElem?_replicate,if_pos hj],fun j h1 h2=>by simp only at h1; omega,fun j h1 h2=>by simp only at h1; omega⟩,
   .inl ⟨rfl,by simp only; rw [show ((on.length:Int) - 1+1).toNat=on.length by omega,List.drop_length]; rfl⟩⟩
  (by show ((on.length:Int) - 1+1).toNat < F; omega) (fun s nx hI a2=>?_)
 obtain⟨first,i0,sum,next⟩:=s
 obtain⟨i1,i2,hR,h0⟩:=hI
 simp only at i1 i2 hR h0 ⊢
 refine J8 (fun hi=>?_) (fun hi=>?_)
 ·obtain⟨i,rfl⟩:∃ i:Nat,i0=(i:Int):=⟨i0.toNat,by have:=Np hi; omega⟩
  have h5:i < on.length:=by omega
  obtain⟨ci,h4⟩:∃ ci,on[i]? = some ci:=⟨on[i],Nu h5⟩
  have b5:=hR.len1
  have b6:=hR.len2
  rw [show ((i:Int)+1).toNat=i+1 by omega] at h0
  refine lW (fun j=>Hd0 on ((i:Int) - 1) j.2.1 j.2.2∧G6f on (chn (on.drop i) (fun _=>true)) i j.1) (fun K hK=>?_)
   (fun j hj=>Ji ⟨by omega,by omega⟩ (a2 _ ⟨by simp only; omega,by simp only; omega,hj.1,by simp only; rw [show ((i:Int) - 1+1).toNat=i by omega]; exact hj.2⟩ (by simp only; omega)))
  have b3:next[i]? = some (next[i]'(by omega)):=Nu (by omega)
  refine Qs rfl b3 (Ji ⟨by omega,by omega⟩ ?_)
  refine wp_loop (fun t:Int×List Int×List Int=>∃ k:Nat,t.1=(k:Int)∧i≤k∧k < on.length∧G65 on i k ci t.2.1 t.2.2) (fun t=>(t.1 - i).toNat)
   ⟨on.length - 1,by show (on.length:Int) - 1=_; omega,by omega,by omega,⟨b5,by show (next.set (i:Int).toNat (-1)).length=_; rw [List.length_set]; exact b6,fun j hj=>hR.lo j (by omega) (by omega),fun j h1 h2=>hR.hi j (by omega) h2,?_,⟨-1,?_,.inl ⟨rfl,?_⟩⟩,fun j h1 h2=>?_⟩⟩ (by show ((on.length:Int) - 1 - i).toNat < F; omega) (fun t nx2 hJ h9=>?_)
  ·rw [show on.length - 1+1=on.length by omega,List.drop_length]
   exact hR.lo i h5 (Int.le_refl _)
  ·show (next.set (i:Int).toNat (-1))[i]? = _
   rw [mG (by omega),if_pos rfl]
  ·rw [show on.length - 1+1=on.length by omega,List.drop_length]; rfl
  ·show ∃ y,(next.set (i:Int).toNat (-1))[j]? = some y∧Hd4 on j y
   rw [mG (by omega),if_neg (by omega)]
   exact hR.nexts j (by omega) h2
  obtain⟨k0,sm,nt⟩:=t
  obtain⟨k,j0,j1,j2,hA⟩:=hJ
  simp only at j0 hA ⊢
  subst j0
  have a4:=hA.len1
  have a5:=hA.len2
  have h7:=hA.mid
  obtain⟨yi,a6,b0⟩:=hA.nxt
  have b7:=GE (P:=cX ci) (l:=on.drop (k+1)) (fun c h=>a3 c (List.mem_of_mem_drop h))
  rw [List.length_drop] at b7
  refine J8 (fun hk=>?_) (fun hk=>?_)
  ·have b8:i < k:=by have:=Np hk; omega
   obtain⟨ck,a7⟩:∃ ck,on[k]? = some ck:=⟨on[k],Nu j2⟩
   have b1:=hA.hi k b8 j2
   have h3:=H3c (P:=cX ci) a7
   refine lW (fun j=>G65 on i (k - 1) ci j.1 j.2) (fun K' a0=>?_) (fun j hj=>Ji ⟨by omega,by omega⟩ (h9 _ ⟨k - 1,by simp only; omega,by omega,by omega,hj⟩ (by simp only; omega)))
   have h6:(cX ci ck&&decide ((chn (on.drop (k+1)) (cX ci)).2≤(sW on k).2))=false→G65 on i (k - 1) ci sm nt:=fun h=>by
    rw [h,if_neg Bool.false_ne_true] at h3
    have hd:k - 1+1=k:=by omega
    refine⟨a4,a5,hA.lo,hA.hi,by rw [hd,h3]; exact h7,⟨yi,a6,?_⟩,hA.nexts⟩
    rw [hd,h3]
    rcases b0 with ⟨e1,e2⟩ | ⟨m,e1,e2,e3,e4⟩
    ·exact .inl ⟨e1,e2⟩
    ·exact .inr ⟨m,e1,by omega,e3,e4⟩
   refine Qs rfl a7 (Qs rfl h4 ?_)
   by_cases h1:ci.G5.Load < ck.G5.Load
   ·rw [Nr h1]
    simp only [cond_true,Bool.true_and]
    refine Jp (Qs rfl a7 (H4 (Jp (Qs rfl h4 (H4 ?_)))))
    by_cases h2:ci.G5.Discharge < ck.G5.Discharge
    ·rw [Nr h2]
     simp only [cond_true,Bool.true_and]
     have b2:cX ci ck=true:=by unfold cX; rw [Nr h1,Nr h2]; rfl
     refine Jp (Qs rfl b1 (H4 (Jp (Qs rfl h7 (H4 (J8 (fun hb=>Qs rfl b1 (Qs rfl h7 (Qs rfl a6 (a0 _ ?_)))) (fun hb=>a0 _ (h6 (by rw [b2,Bool.true_and]; exact hb)))))))))
     rw [b2,Bool.true_and,if_pos hb] at h3
     have hd:k - 1+1=k:=by omega
     refine⟨by rw [List.length_set]; exact a4,by rw [List.length_set]; exact a5,fun j hj=>?_,fun j g1 g2=>?_,?_,⟨k,?_,?_⟩,fun j g1 g2=>?_⟩
     ·simp only; rw [mG (by omega),if_neg (by omega)]; exact hA.lo j hj
     ·simp only; rw [mG (by omega),if_neg (by omega)]; exact hA.hi j g1 g2
     ·simp only; rw [mG (by omega),if_pos rfl,hd,h3]
     ·simp only; rw [mG (by omega),if_pos rfl]
     ·rw [hd,h3]; exact .inr ⟨k,rfl,Ny,j2,rfl⟩
     ·simp only; rw [mG (by omega),if_neg (by omega)]; exact hA.nexts j g1 g2
    ·rw [Ns h2]
     simp only [cond_false,Bool.false_and]
     exact Jp (H4 (Jp (H4 (a0 _ (h6 (by unfold cX; rw [Ns h2,Bool.and_false]; rfl))))))
   ·rw [Ns h1]
    simp only [cond_false,Bool.false_and]
    exact Jp (H4 (Jp (H4 (Jp (H4 (Jp (H4 (a0 _ (h6 (by unfold cX; rw [Ns h1]; rfl))))))))))
  ·have b9:k=i:=by have:=Nq hk; omega
   subst b9
   have c0:=H84 (hw ci (Nw h4)).1
   have c5:=a3 ci (Nw h4)
   have b4:=xX h4
   have h8:Hd0 on ((k:Int) - 1) (sm.set (k:Int).toNat ((chn (on.drop (k+1)) (cX ci)).2+wtC ci)) nt:=by
    refine⟨by rw [List.length_set]; exact a4,a5,fun j hj h=>?_,fun j g1 g2=>?_,fun j g1 g2=>?_⟩
    ·rw [mG (by omega),if_neg (by omega)]; exact hA.lo j (by omega)
    ·rw [mG (by omega)]
     by_cases e:j=k
     ·subst e; rw [if_pos rfl,b4]
     ·rw [if_neg e]; exact hA.hi j (by omega) g2
    ·by_cases e:j=k
     ·subst e
      refine⟨yi,a6,fun c h=>?_⟩
      rw [h4] at h; cases h
      exact b0
     ·exact hA.nexts j (by omega) g2
   refine Qs rfl h7 (Qs rfl h4 (Hh c0 (Ji ⟨by omega,by omega⟩ (Qs rfl h7 ?_))))
   have h3:=H3c (P:=fun _=>true) h4
   rw [Bool.true_and] at h3
   have c1:=h8.hi k (by omega) h5
   have c4:=(H57 a3 h5).1
   rcases h0 with ⟨rfl,e0⟩ | ⟨f,rfl,f1,f2,e0⟩
   ·rw [e0,if_pos (Nr (by simp only; omega))] at h3
    exact Jp (H4 (Jp (H4 (hK _ ⟨h8,.inr ⟨k,rfl,Ny,h5,h3⟩⟩))))
   ·have c2:=h8.hi f (by omega) f2
    rw [Ns (show ¬ (f:Int) < 0 by omega)]
    simp only [Bool.not_false,cond_true,Bool.false_or]
    rw [e0] at h3
    exact Jp (Qs rfl c1 (H4 (Jp (Qs rfl c2 (H4 (J8 (fun hb=>hK _ ⟨h8,.inr ⟨k,rfl,Ny,h5,by rw [h3,if_pos hb]⟩⟩) (fun hb=>hK _ ⟨h8,.inr ⟨f,rfl,by omega,f2,by rw [h3,hb]; rfl⟩⟩)))))))
 ·have c3:i0 = -1:=by have:=Nq hi; omega
  subst c3
  rw [show ((-1:Int)+1).toNat=0 by omega,List.drop_zero] at h0
  generalize chn on (fun _=>true)=full at h0 ⊢
  refine wp_loop (fun t:List G1×Int=>(t.2 = -1∧t.1=full.1)∨∃ j:Nat,t.2=(j:Int)∧j < on.length∧t.1.length≤j∧full.1=t.1++(sW on j).1)
   (fun t=>if t.2 < 0 then 0 else ((on.length:Int) - t.2).toNat) ?_ (by simp only; split <;> omega) (fun t nx2 hJ h9=>?_)
  ·rcases h0 with ⟨rfl,e⟩ | ⟨f,rfl,_,f2,e⟩
   ·exact .inl ⟨rfl,by rw [e]⟩
   ·exact .inr ⟨f,rfl,f2,Nat.zero_le _,by rw [e]; rfl⟩
  obtain⟨l,i⟩:=t
  simp only at hJ ⊢
  rcases hJ with ⟨rfl,hl⟩ | ⟨j,rfl,hj,c6,hb⟩
  ·exact J8 (fun h=>absurd (Np h) (by omega)) (fun _=>H4 hl)
  ·refine J8 (fun _=>?_) (fun h=>absurd (Nq h) (by omega))
   obtain⟨cj,a8⟩:∃ cj,on[j]? = some cj:=⟨on[j],Nu hj⟩
   obtain⟨y,hy,a1⟩:=hR.nexts j (by omega) hj
   have a1:=a1 cj a8
   rw [xX a8] at hb
   refine Qs rfl a8 (Z0 (mH (by rw [P6]; omega) (by omega)) (Qs rfl hy (h9 _ ?_ ?_)))
   ·rcases a1 with ⟨rfl,e⟩ | ⟨k,rfl,k1,k2,e⟩
    ·exact .inl ⟨rfl,by rw [hb,e]⟩
    ·exact .inr ⟨k,rfl,k2,by simp only [P5,P6]; omega,by rw [hb,e]; simp⟩
   ·simp only
    rcases a1 with ⟨rfl,_⟩ | ⟨k,rfl,k1,k2,_⟩
    ·rw [if_pos (by omega),if_neg (by omega)]; omega
    ·rw [if_neg (by omega),if_neg (by omega)]; omega
theorem QQ:∀ {l:List G1} {P:G1→Bool},(chn l P).1.length≤l.length
 | [],P=>Ny
 | c::r,P=>by
  rw [chn,P1]
  split
  ·exact Nat.succ_le_succ (QQ (l:=r))
  ·exact Nat.le_succ_of_le (QQ (l:=r))
def grp (t:List G1×Int):List G5×Int:=(t.1.map (·.G5),t.2)
theorem H27 {on:List G1} (hw:∀ c∈on,Zi c∧1≤wtC c) (hl:on.length≤12):∀ (n F k:Nat) (last:G5) (sm:Bool),on.length≤k+n→n+20≤F →
  Y6 F (on.map toR) (k:Int) last sm=some (grp (chn (on.drop k) (fun c=>!(sm&&(decide (c.G5.Load≤last.Load)||decide (c.G5.Discharge≤last.Discharge)))))):=by
 have h3:∀ c∈on,1≤wtC c∧wtC c≤36:=fun c h=>by
  obtain⟨⟨⟨w1,w2⟩,⟨v1,v2⟩⟩,b⟩:=hw c h
  exact⟨b,by unfold wtC; omega⟩
 intro n
 induction n using Nat.strongRecOn with
 | _ n ih=>
 intro F k last sm hk hF
 obtain⟨F',rfl⟩:∃ F',F=F'+1:=⟨F - 1,by omega⟩
 refine gA ?_
 rw [Y6]
 unfold aX
 generalize hP:(fun c:G1=>!(sm&&(decide (c.G5.Load≤last.Load)||decide (c.G5.Discharge≤last.Discharge))))=P
 have h7:∀ c:G1,P c=!(sm&&(decide (c.G5.Load≤last.Load)||decide (c.G5.Discharge≤last.Discharge))):=fun c=>by rw [← hP]
 refine wp_loop (fun s:List G5×Int×Int=>∃ i:Nat,s.2.2=(i:Int)∧k≤i∧i≤k+on.length∧0≤s.2.1∧s.2.1≤1000∧(if s.2.1 < (chn (on.drop i) P).2 then grp (chn (on.drop i) P) else (s.1,s.2.1))=grp (chn (on.drop k) P)) (fun s=>((on.length:Int) - s.2.2).toNat)
  ⟨k,rfl,Ny,by omega,Int.le_refl _,by show (0:Int)≤1000; decide,?_⟩ (by simp only; omega) (fun s nx hI a0=>?_)
 ·obtain⟨a1,a2,a3⟩:=GE (P:=P) (l:=on.drop k) (fun c hc=>h3 c (List.mem_of_mem_drop hc))
  simp only
  by_cases h0:0 < (chn (on.drop k) P).2
  ·rw [if_pos h0]
  ·rw [if_neg h0]
   unfold grp
   rw [a3 (by omega),show (chn (on.drop k) P).2=0 by omega]
   rfl
 obtain⟨best,most,i0⟩:=s
 obtain⟨i,e,i1,i5,i2,i3,i4⟩:=hI
 simp only at e i2 i3 i4 ⊢
 subst e
 refine J8 (fun hi=>?_) (fun hi=>?_)
 ·have h8:i < on.length:=by have:=Np hi; rw [P9] at this; omega
  obtain⟨c,hc⟩:∃ c,on[i]? = some c:=⟨on[i],Nu h8⟩
  have h4:(on.map toR)[i]? = some (toR c):=by rw [P2,hc]; rfl
  have h2:=H3c (P:=P) hc
  have h5:=xX hc
  obtain⟨⟨⟨w1,w2⟩,⟨v1,v2⟩⟩,_⟩:=hw c (Nw hc)
  have a9:=H57 h3 h8
  refine lW (fun j:List G5×Int=>0≤j.2∧j.2≤1000∧(if j.2 < (chn (on.drop (i+1)) P).2 then grp (chn (on.drop (i+1)) P) else j)=grp (chn (on.drop k) P)) (fun K hK=>?_)
   (fun j hj=>Ji ⟨by omega,by omega⟩ (a0 _ ⟨i+1,by simp only; omega,by omega,by omega,hj.1,hj.2.1,hj.2.2⟩ (by simp only; omega)))
  refine Qs rfl h4 (J8 (fun h=>hK _ ⟨i2,i3,?_⟩) (fun h=>?_))
  ·have a4:P c=false:=by
    rw [h7]
    have h:(sm&&(decide (c.G5.Load≤last.Load)||decide (c.G5.Discharge≤last.Discharge)))=true:=h
    rw [h]; rfl
   rw [a4,Bool.false_and,if_neg Bool.false_ne_true] at h2
   rw [← i4,h2]
  ·have a5:P c=true:=by
    rw [h7]
    have h:(sm&&(decide (c.G5.Load≤last.Load)||decide (c.G5.Discharge≤last.Discharge)))=false:=h
    rw [h]; rfl
   rw [a5,Bool.true_and] at h2
   have h6:=ih (n - 1) (by omega) F' (i+1) c.G5 true (by omega) (by omega)
   have a6:(fun d:G1=>!(true&&(decide (d.G5.Load≤c.G5.Load)||decide (d.G5.Discharge≤c.G5.Discharge))))=cX c:=funext fun d=>by
    unfold cX
    rw [Bool.true_and,Bool.not_or]
    congr 1
    ·by_cases h:c.G5.Load < d.G5.Load
     ·rw [Nr h,Ns (by omega)]; rfl
     ·rw [Ns h,Nr (by omega)]; rfl
    ·by_cases h:c.G5.Discharge < d.G5.Discharge
     ·rw [Nr h,Ns (by omega)]; rfl
     ·rw [Ns h,Nr (by omega)]; rfl
   rw [a6] at h6
   have a7:=GE (P:=cX c) (l:=on.drop (i+1)) (fun c hc=>h3 c (List.mem_of_mem_drop hc))
   rw [List.length_drop] at a7
   have h9:=QQ (l:=on.drop (i+1)) (P:=cX c)
   rw [List.length_drop] at h9
   have hv:(chn (on.drop (i+1)) (cX c)).2+2*c.Whole+c.Half=(sW on i).2:=by
    rw [h5]
    simp only [wtC]
    omega
   refine Ji ⟨by omega,by omega⟩ (Hh h6 (Qs rfl h4 (Ji ⟨by show _≤2*c.Whole; omega,by show 2*c.Whole≤_; omega⟩ (Ji ⟨by show _≤(chn (on.drop (i+1)) (cX c)).2+2*c.Whole; omega,by show (chn (on.drop (i+1)) (cX c)).2+2*c.Whole≤_; omega⟩
    (Qs rfl h4 (Ji ⟨by show _≤(chn (on.drop (i+1)) (cX c)).2+2*c.Whole+c.Half; omega,by show (chn (on.drop (i+1)) (cX c)).2+2*c.Whole+c.Half≤_; omega⟩ ?_))))))
   show Wp (bif decide (most < (chn (on.drop (i+1)) (cX c)).2+2*c.Whole+c.Half) then _ else _) _
   rw [hv]
   have hj:(([c.G5]++(grp (chn (on.drop (i+1)) (cX c))).1:List G5),(sW on i).2)=grp (sW on i):=by
    rw [h5]; rfl
   refine J8 (fun hb=>?_) (fun hb=>hK _ ⟨i2,i3,?_⟩)
   ·have hb:=Np hb
    refine Z0 (mH (by simp only [grp,P9,P6]; omega) (by omega)) (hK _ ⟨by show 0≤(chn (on.drop (i+1)) (cX c)).2+2*c.Whole+c.Half; omega,by show (chn (on.drop (i+1)) (cX c)).2+2*c.Whole+c.Half≤1000; omega,?_⟩)
    show (if (chn (on.drop (i+1)) (cX c)).2+2*c.Whole+c.Half < (chn (on.drop (i+1)) P).2 then grp (chn (on.drop (i+1)) P) else (([c.G5]++(grp (chn (on.drop (i+1)) (cX c))).1:List G5),(chn (on.drop (i+1)) (cX c)).2+2*c.Whole+c.Half))=_
    rw [hv,hj,← i4,h2]
    by_cases h1:(chn (on.drop (i+1)) P).2≤(sW on i).2
    ·rw [if_neg (by omega),if_pos (Nr h1),if_pos hb]
    ·rw [if_neg (show ¬ (decide ((chn (on.drop (i+1)) P).2≤(sW on i).2)=true) by simpa using h1),if_pos (by omega),if_pos (by omega)]
   ·have hb:=Nq hb
    show (if most < (chn (on.drop (i+1)) P).2 then grp (chn (on.drop (i+1)) P) else (best,most))=_
    rw [← i4,h2]
    by_cases h1:(chn (on.drop (i+1)) P).2≤(sW on i).2
    ·rw [if_pos (Nr h1),if_neg (by omega),if_neg hb]
    ·rw [if_neg (show ¬ (decide ((chn (on.drop (i+1)) P).2≤(sW on i).2)=true) by simpa using h1)]
 ·have a8:=Nq hi
  rw [P9] at a8
  rw [List.drop_eq_nil_of_le (by omega),if_neg (show ¬ most < (chn [] P).2 by show ¬ most < 0; omega)] at i4
  exact H4 i4
end Go.Proofs.YthkihfoleenlmaaGreat
