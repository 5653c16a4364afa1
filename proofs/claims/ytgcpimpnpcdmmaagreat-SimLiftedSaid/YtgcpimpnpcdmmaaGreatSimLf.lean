/- SimLifted: -/
import Derived.Test.YtgcpimpnpcdmmaaGreatMovD
import Derived.Test.YtgcpimpnpcdmmaaGreatMovD
import Derived.Test.YtgcpimpnpcdmmaaGreatXQ
set_option maxRecDepth 100000
set_option linter.unusedVariables false
namespace Go.Proofs.YtgcpimpnpcdmmaaGreat
open Go.RowKit
theorem Yde {F:Nat} (hF:60≤F) (places:List Hd) (covers:Int) (items:List H9) (hp:∀ p∈places,Q7a p) (hi:∀ x∈items,R83 x) :
  Wp (Ru F places covers items) (fun r=>G76 r.1∧Gc1 4 r.2.1∧Q1d r.1 r.2.1 4 r.2.2):=by
 unfold Ru
 refine H6 (wp_mono (Y5d places covers hp) (fun s hs=>?_))
 exact H6 (wp_mono (Rea (Q5f hs) hi (by decide) hF) (fun r hr=>Gp ⟨hs,hr.1,hr.2⟩))
theorem Ycb {s:Gi} {bf af:List G1} {set:List Int}:∀ x∈G66 s bf af set,x.Box=0∨x.Box∈set:=by
 have h0:∀ {l:List G1} {n:Int} {d:Bool} {x:G1},x∈Yz s l set n d→x.Box∈set:=fun {l n d x} h=>(Jd9.1 h).2.2.2
 intro x hx
 unfold G66 outs ins at hx
 rcases Mn.1 hx with hx | hx
 ·obtain⟨b,_,hx⟩:=List.mem_flatMap.1 hx
  unfold Hca at hx
  simp only [Mn,Mo,H53] at hx
  rcases hx with (⟨y,hy,rfl⟩ | ⟨y,hy,rfl⟩) | ⟨y,hy,rfl⟩
  ·exact .inr (h0 hy)
  ·exact .inl rfl
  ·exact .inr (h0 hy)
 ·obtain⟨b,_,hx⟩:=List.mem_flatMap.1 hx
  unfold J8d at hx
  simp only [Mn,Mo] at hx
  rcases hx with (⟨y,hy,rfl⟩ | ⟨y,hy,rfl⟩) | ⟨y,hy,rfl⟩
  ·exact .inr (h0 hy)
  ·exact .inl rfl
  ·exact .inr (h0 hy)
theorem Q4a {F:Nat} {s:Gi} {boxes:List Box}:∀ (a:List Move) {b:List Move} {st st':St3},G02 F s boxes (a++b) st=some st'→∃ st1,G02 F s boxes a st=some st1∧G02 F s boxes b st1=some st'
 | [],b,st,st',h=>⟨st,rfl,h⟩
 | x::r,b,st,st',h=>by
  rw [List.cons_append] at h
  obtain⟨hc,h⟩:=G71.1 h
  obtain⟨st1,h1,h2⟩:=Q4a r h
  exact⟨st1,G71.2 ⟨hc,h1⟩,h2⟩
theorem Rcf (l:List Move):G8f l=J12 l:=by
 induction l with
 | nil=>rfl
 | cons x r ih=>
  show G64 x+G8f r=(bif R39 x then 1 else 0)+J12 r
  rw [ih]
  congr 1
  unfold G64 R39
  by_cases h2:x.Kind=2
  ·rw [if_pos (.inl h2),M3 h2]; rfl
  ·by_cases h3:x.Kind=3
   ·rw [if_pos (.inr h3),M3 h3,Bool.or_true]; rfl
   ·rw [if_neg (fun g=>g.elim h2 h3),M4 h2,M4 h3]; rfl
theorem R54 {α:Type} (p:α→Bool):∀ l:List α,tot (fun x=>bif p x then 1 else 0) l=((l.filter p).length:Int)
 | []=>rfl
 | x::r=>by
  rw [tot,R54 p r,List.filter_cons]
  cases p x with
  | true=>rw [cond_true,if_pos rfl,Md]; omega
  | false=>rw [cond_false,if_neg (by decide)]; omega
theorem Qc9 {lf:List Int} {l:List G1} (hn:lf.Nodup) (hl:(l.map (·.Box)).Nodup):tot (fun x=>bif J7e lf x then 1 else 0) l=tot (fun id=>bif l.any (fun x=>decide (x.Box=id)) then 1 else 0) lf:=by
 rw [R54,R54]
 have hp:((l.filter (J7e lf)).map (·.Box)).Perm (lf.filter (fun id=>l.any (fun x=>decide (x.Box=id)))):=by
  refine(List.perm_ext_iff_of_nodup (hl.sublist (List.filter_sublist.map _)) (hn.sublist List.filter_sublist)).2 fun a=>?_
  rw [Mo,Mr,List.any_eq_true]
  constructor
  ·rintro⟨x,hx,rfl⟩
   obtain⟨h1,h2⟩:=Mr.1 hx
   unfold J7e at h2
   obtain⟨y,hy,e⟩:=List.any_eq_true.1 h2
   have e:=M1 e
   exact⟨e ▸ hy,x,h1,M3 rfl⟩
  ·rintro⟨ha,x,hx,e⟩
   have e:=M1 e
   refine⟨x,Mr.2 ⟨hx,?_⟩,e⟩
   unfold J7e
   exact List.any_eq_true.2 ⟨a,ha,M3 e⟩
 have:=hp.length_eq
 rw [Mm] at this
 rw [this]
theorem R71 (l:List Int) (v:Int):Je l v=some (decide (v∈l)):=by
 have e:R7 l v=some (J2b (fun y:Int=>decide (v=y)) l):=H55 (f:=fun y=>some (decide (v=y))) (fun x _=>rfl)
 unfold Je
 refine G34 (Gt e (Gp ?_))
 rw [Gf8,Bool.eq_iff_iff,List.any_eq_true,Mk]
 exact⟨fun⟨y,hy,e⟩=>M1 e ▸ hy,fun h=>⟨v,h,M3 rfl⟩⟩
theorem Rd3 {F:Nat} (hF:60≤F) (places:List Hd) (covers:Int) (items:List H9) (call:Int) (hp:∀ p∈places,Q7a p) (hi:∀ x∈items,R83 x) (h6:Byte call) :
  Zg F places covers items call=some true:=by
 refine G34 ?_
 obtain⟨c1,c2⟩:=h6
 unfold Zg
 refine Gt Z60 (Hv (fun h=>by cases h) (fun _=>?_))
 refine H6 (wp_mono (Yde hF places covers items hp hi) (fun r7 h7=>?_))
 obtain⟨s,boxes,p⟩:=r7
 obtain⟨hs,hb,h2⟩:=h7
 have hs:G76 s:=hs
 have hb:Gc1 4 boxes:=hb
 have h2:Q1d s boxes 4 p:=h2
 dsimp only
 have a1:=h2.len
 refine Qo ⟨by omega,by omega⟩ (H6 (J31 (by omega) ?_))
 rw [a1,show call.tmod 4=call % 4 from Int.tmod_eq_emod_of_nonneg c1]
 obtain⟨k,hk⟩:∃ k:Nat,call % 4=(k:Int):=⟨(call % 4).toNat,by omega⟩
 have a3:k < p.States.length:=by omega
 rw [hk]
 have ha:=M6 a3
 generalize p.States[k]=af at ha
 obtain⟨lf,hc⟩:=Z12 (F:=F) hF hs hb h2 ha
 refine Zr (fun j=>j=J8f (p.States.take k)) (fun K hK=>Hv (fun h=>?_) (fun h=>hK _ ?_)) (fun j hj=>?_)
 ·have h:=M1 h
  have h8:k - 1 < p.States.length:=by omega
  refine Qo ⟨by omega,by omega⟩ (Yq (show (k:Int) - 1=((k - 1:Nat):Int) by omega) (M6 h8) (hK _ ?_))
  unfold J8f
  rw [List.getLast?_take,if_neg (by omega),M6 h8]
  rfl
 ·have h:=M2 h
  have:k=0:=by omega
  subst this
  rfl
 subst hj
 generalize J8f (p.States.take k)=bf at hc
 have a4:=hc.C.lb
 have b5:=hc.C.la
 have a5:=hc.good.num
 have b6:=Yca (s:=s) (bf:=bf) (af:=af) (lf:=lf) (R46 hs) (by omega) (by omega)
 refine Yq rfl ha (Gt hc.call (Yq rfl ha (Gt hc.lift (Yq rfl ha (Gt (Yb7 (by omega)) ?_)))))
 have a6:=Y38 hc.good.ship hc.good.right a4 (a:=G50 af bf) (by show (G50 af bf).length≤1000; have h:bf.length+(G50 af bf).length≤10:=a5; omega) hc.good.box hc.good.asc hc.good.disj
 refine H6 (wp_mono a6 (fun r29 a7=>?_))
 obtain⟨m0,e0⟩:=r29
 obtain⟨h0,hR,h3⟩:=a7
 have h0:e0=0:=h0
 subst h0
 have h3:m0.lifts=0:=h3
 refine Qo (show -9223372036854775808≤(0:Int)+0∧(0:Int)+0≤9223372036854775807 by decide) (Qo (show -9223372036854775808≤(0:Int)+0+0∧(0:Int)+0+0≤9223372036854775807 by decide) (Hv (fun h=>by cases h) (fun _=>?_)))
 dsimp only
 refine Jj (fun pre m=>∃ t,G02 0 s boxes pre (bf,[],G50 af bf)=some (J2a t)∧Good s boxes t∧H57 s boxes m t∧m.lifts=G8f pre) ⟨_,rfl,hc.good,hR,h3⟩ (fun pre x post m nx e hI h4=>?_) (fun m hI=>?_)
 ·obtain⟨t,hr,hG,hR,hl⟩:=hI
  have h5:=hc.run
  rw [e] at h5
  obtain⟨st1,g1,g2⟩:=Q4a pre h5
  have e1:st1=J2a t:=M7 (g1.symm.trans hr)
  subst e1
  obtain⟨h1,_⟩:=G71.1 g2
  have h1:Can s boxes t x:=h1
  have b2:=Q12 pre
  have b3:pre.length≤4000:=by have:=congrArg List.length e; simp only [Mh,Md] at this; omega
  have a2:=Ycb (s:=s) (bf:=bf) (af:=af) (set:=lf) x (by rw [e]; simp)
  have h9:Wp (bnd (G1e m x) fun r107=>bif decide (r107.1≠0) then some false else nx r107.2) (·=true):=by
   refine H6 (wp_mono (Y8b hG hR (by omega) x) (fun q hq=>?_))
   rcases hq with ⟨_,h0,a8,a9⟩ | ⟨b0,_⟩
   ·refine Hv (fun h=>absurd h0 (M1 h)) (fun _=>h4 _ ⟨nxt t x,?_,h1.step hG,a8,?_⟩)
    ·exact G1d pre [x] _ _ _ hr (G71.2 ⟨h1,rfl⟩)
    ·rw [Hb9,a9,hl]
   ·exact(b0 h1).elim
  by_cases h0:x.Box=0
  ·rw [M4 (show ¬ x.Box≠0 from fun h=>h h0)]
   exact H6 (Gp h9)
  ·rw [M3 h0]
   refine Gt (R71 _ _) ?_
   rw [M3 (a2.resolve_left h0)]
   exact h9
 ·obtain⟨t,hr,hG,hR,hl⟩:=hI
  have hn:lf.Nodup:=Ro hc.asc
  have b1:lf.length≤20:=by
   have:=hn.length_le_of_subset (fun a ha=>hc.bnd a ha)
   simp only [Mh,Mm] at this
   omega
  let f:Int→Int:=fun id=>(bif bf.any (fun x=>decide (x.Box=id)) then 1 else 0)+(bif af.any (fun x=>decide (x.Box=id)) then 1 else 0)
  have hf:∀ id,0≤f id∧f id≤2:=fun id=>by
   show 0≤(bif bf.any (fun x=>decide (x.Box=id)) then (1:Int) else 0)+(bif af.any (fun x=>decide (x.Box=id)) then 1 else 0)∧(bif bf.any (fun x=>decide (x.Box=id)) then (1:Int) else 0)+(bif af.any (fun x=>decide (x.Box=id)) then 1 else 0)≤2
   cases bf.any (fun x=>decide (x.Box=id)) <;> cases af.any (fun x=>decide (x.Box=id)) <;> decide
  refine Jj (fun pre n=>n=tot f pre) rfl (fun pre id post n nx e hI h4=>?_) (fun n hI=>?_)
  ·subst hI
   have b7:=R1a (f:=f) (lo:=0) (hi:=2) (l:=pre) (fun x _=>hf x)
   have b4:pre.length≤20:=by have:=congrArg List.length e; simp only [Mh,Md] at this; omega
   refine Yq rfl ha ?_
   have one:∀ (l:List G1) (n:Int) (Q:Bool→Prop) (K:Int→Option Bool),(0≤n∧n≤1000)→Wp (K (n+(bif l.any (fun x=>decide (x.Box=id)) then 1 else 0))) Q →
     Wp (jp (fun kj139=>
       bnd (Hw l (fun z0=>Ra z0 id)) fun r142=>
       bif r142 then
       (chk (n+1) fun v143=>
        kj139 v143)
       else
       (kj139 n)) fun(j139:Int)=>K j139) Q:=fun l n Q K hn hK=>by
    refine Zr (fun j=>j=n+(bif l.any (fun x=>decide (x.Box=id)) then 1 else 0)) (fun K' a0=>?_) (fun j hj=>by rw [hj]; exact hK)
    refine Gt (Je3 (p:=fun x=>decide (x.Box=id)) (fun x hx=>rfl)) (Hv (fun h=>Qo ⟨by omega,by omega⟩ (a0 _ ?_)) (fun h=>a0 _ ?_))
    ·rw [h]; rfl
    ·rw [h]; exact(Int.add_zero n).symm
   refine one bf _ _ _ (by omega) (one af _ _ _ ?_ (h4 _ ?_))
   ·cases bf.any (fun x=>decide (x.Box=id)) <;> simp only [cond_true,cond_false] <;> omega
   ·rw [R8d]
    show _=tot f pre+((bif bf.any (fun x=>decide (x.Box=id)) then (1:Int) else 0)+(bif af.any (fun x=>decide (x.Box=id)) then 1 else 0))
    omega
  ·refine Gt (show G32 m=some m.lifts from rfl) (Gp ?_)
   rw [Mk,hI,hl,Rcf,Rce hs (H46.colIn hc.C.bef) (H46.colIn hc.C.aft),Qc9 hn (H4f hc.C.bef.sorted),Qc9 hn (H4f hc.C.aft.sorted),← Q74]
end Go.Proofs.YtgcpimpnpcdmmaaGreat
