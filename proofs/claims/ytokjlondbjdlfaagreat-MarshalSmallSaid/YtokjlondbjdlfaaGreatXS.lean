/- Walks of functions. -/
import Derived.Test.YtokjlondbjdlfaaGreatSpecS
set_option maxRecDepth 100000
set_option maxHeartbeats 1000000
set_option linter.unusedVariables false
set_option linter.unusedSimpArgs false
namespace Go.Proofs.YtokjlondbjdlfaaGreat
open Go.RowKit
noncomputable section

namespace XSF
open XAF
open XBF
open XCF
open XDF
open XEF
theorem Hc6:Hp E8 4=true:=by kernel_rfl
theorem H4c:Hp E8 5=true:=by kernel_rfl
theorem H4b:Hp E8 8=true:=by kernel_rfl
theorem Q8c:Hp E8 9=true:=by kernel_rfl
theorem Q00:Rw E8 22 1=true:=by kernel_rfl
theorem Jfe:(E8.info? 22).bind (fun i=>i.zero.map Value.cells)=some (List.toArray [.slice none 0 0]):=by kernel_rfl
end XSF
open XAF
open XBF
open XCF
open XDF
open XEF
open XSF

def Rn (F:Nat) :Option Bool:=
 need (decide (243≤9223372036854775807)) <|
 upto (fun g (s5:Unit) a0=>
  bnd (J83 (g:Int)) fun h=>
  bnd (Rm 2 h.length) fun q=>
  each (fun b9 a1 (a2:Unit) r=>
   Qx ([[],[1],[4,2],[1,2,3,4],[2,2],[5]]) (a1:Int) fun e=>
   bnd (Qm F (Gh.mk h (1+(g:Int).tmod 3)) e) fun a3=>
   need a3 <|
   bnd (Q7 F (Gh.mk h (1+(g:Int).tmod 3)) e) fun a4=>
   need a4 <|
   bnd (Qm F (Gh.mk (h.take q) (1+(g:Int).tmod 3)) e) fun a5=>
   need a5 <|
   bnd (Q7 F (Gh.mk (h.take q) (1+(g:Int).tmod 3)) e) fun a6=>
   need a6 <|
   bnd (He F (Gs.mk h (1+(g:Int).tmod 3)) e) fun a7=>
   bnd (Q2 a7.1) fun b=>
   bnd (Qi F (Gh.mk h (1+(g:Int).tmod 3)) e b) fun a8=>
   need a8 <|
   need (decide ((b.length+[(G2.mk 0 1)].length)*16≤140737488355328∧b.length+[(G2.mk 0 1)].length≤maxLen)) <|
   bnd (Qi F (Gh.mk h (1+(g:Int).tmod 3)) e (b++[(G2.mk 0 1)])) fun a9=>
   need a9 <|
   each (fun c0 k (b0:Unit) s=>
    bnd (Rm (k:Int) b.length) fun l=>
    need (decide ((([]:List G2).length+(b.take l).length)*16≤140737488355328∧([]:List G2).length+(b.take l).length≤maxLen)) <|
    bnd (Rm ((k+1:Nat):Int) b.length) fun m=>
    need (decide (((([]:List G2)++(b.take l)).length+(b.drop m).length)*16≤140737488355328∧(([]:List G2)++(b.take l)).length+(b.drop m).length≤maxLen)) <|
    need (decide ((([]:List G2).length+b.length)*16≤140737488355328∧([]:List G2).length+b.length≤maxLen)) <|
    Qx (([]:List G2)++b) (k:Int) fun b1=>
    chk (b1.To+1) fun b2=>
    bnd (Jc5 b2 4) fun b3=>
    Qx (([]:List G2)++b) (k:Int) fun b4=>
    bnd (Qi F (Gh.mk h (1+(g:Int).tmod 3)) e ((([]:List G2)++(b.take l))++(b.drop m))) fun b5=>
    need b5 <|
    bnd (Qi F (Gh.mk h (1+(g:Int).tmod 3)) e ((([]:List G2)++b).set (k:Int).toNat (G2.mk b4.From b3))) fun b6=>
    bif (!b6) then
    (some false)
    else
    (s ()))
   (fun(b0:Unit)=>
    r ()) b 0 ())
  (fun(a2:Unit)=>
   a0 ()) ([[],[1],[4,2],[1,2,3,4],[2,2],[5]]) 0 ())
 (fun(s5:Unit)=>
  loop (fun t (f:Int)=>
   bif decide (f < 7) then
   (loop (fun o (a:(List Int)×Int)=>
     bif decide (a.2≤f) then
     (need (decide ((a.1.length+[a.2].length)*8≤140737488355328∧a.1.length+[a.2].length≤maxLen)) <|
      chk (a.2+1) fun u=>
      o ((a.1++[a.2]),u))
     else
     (loop (fun p (c:Int)=>
       bif decide (c < 6) then
       (bnd (Ha9 c) fun d=>
        need (decide (24*d≤281474976710656∧d≤maxLen∧d*1≤16777216)) <|
        chk (c - 1) fun i=>
        Qx (List.replicate d ([]:List Int)) i fun b8=>
        bnd (bif ((decide (f < 5))||(decide (c≠4))) then Q7 F (Gh.mk ((List.replicate d ([]:List Int)).set i.toNat a.1) 6) a.1 else some default) fun j=>
        bnd (bif ((!(((decide (f < 5))||(decide (c≠4)))&&(!j)))&&(decide (c < 4))) then Rm 1 a.1.length else some 0) fun v=>
        bnd (bif ((!(((decide (f < 5))||(decide (c≠4)))&&(!j)))&&(decide (c < 4))) then Q7 F (Gh.mk ((List.replicate d ([]:List Int)).set i.toNat a.1) 6) (a.1.take v) else some default) fun n=>
        bnd (bif (!((((decide (f < 5))||(decide (c≠4)))&&(!j))||((decide (c < 4))&&(!n)))) then Qm F (Gh.mk ((List.replicate d ([]:List Int)).set i.toNat a.1) 6) a.1 else some default) fun w=>
        bif (((((decide (f < 5))||(decide (c≠4)))&&(!j))||((decide (c < 4))&&(!n)))||(!w)) then
        (some false)
        else
        (chk (c+1) fun x=>
         p x))
       else
       (chk (f+1) fun y=>
        t y)) F 2)) F ([],1))
   else
   (bnd (Qr F) fun z=>
    some z)) F 3) (243:Int).toNat 0 ()
theorem G82 (F:Nat)  (r:Bool) (h:Rn F =some r):Pure E8 3 [] (·=BL r):=by
 unfold Rn at h
 refine Hj [.tmp 0] Tryz.func3 O O ?_
 refine Jr fun o8=>?_
 refine JLm (BL false) O ?_
 refine G6 (o8 ?_)
 refine Jr fun o9=>?_
 refine JLg (E1 [1]) (H4 (xs:=[I64 1]) O ⟨O,O,ø⟩ G8 J6 O O O O) ?_
 refine JLg (E1 [4,2]) (H4 (xs:=[I64 4,I64 2]) O ⟨O,O,O,O,ø⟩ G8 J6 O O O O) ?_
 refine JLg (E1 [1,2,3,4]) (H4 (xs:=[I64 1,I64 2,I64 3,I64 4]) O ⟨O,O,O,O,O,O,O,O,ø⟩ G8 J6 O O O O) ?_
 refine JLg (E1 [2,2]) (H4 (xs:=[I64 2,I64 2]) O ⟨O,O,O,O,ø⟩ G8 J6 O O O O) ?_
 refine JLg (E1 [5]) (H4 (xs:=[I64 5]) O ⟨O,O,ø⟩ G8 J6 O O O O) ?_
 refine JLg (LS 1 (E1) ([[],[1],[4,2],[1,2,3,4],[2,2],[5]])) (Gf0 (xs:=[E1 ([]:List Int),E1 [1],E1 [4,2],E1 [1,2,3,4],E1 [2,2],E1 [5]]) O ⟨.inr ⟨_,O,O⟩,O,.inl O,O,.inl O,O,.inl O,O,.inl O,O,.inl O,O,ø⟩ Ge Yu O O O O) ?_
 refine JLm (LS 1 (E1) ([[],[1],[4,2],[1,2,3,4],[2,2],[5]])) O ?_
 refine G6 (o9 ?_)
 refine Js fun p0=>?_
 refine Jr fun p1=>?_
 refine JLm (I64 0) O ?_
 refine G6 (p1 ?_)
 refine Gf ?_
 obtain⟨p2,h⟩:=Ho h
 obtain⟨b5,p3,p4,i6,h⟩:=Ga9 h
 refine Ha (fun d (s5:Unit)=>upto b5 p3 ((243:Int).toNat - d) d s5=some r) (fun d s5=>[(1,LS 1 (E1) ([[],[1],[4,2],[1,2,3,4],[2,2],[5]])),(2,E7 d)]) (fun d s5=>[]) (fun d=>(243:Int).toNat - d) 0 () h ⟨(.sm O O),ø,O⟩ ?_
 clear h
 intro d s5 i0 K5 e5
 refine Js fun p5=>?_
 refine Jr fun p6=>?_
 refine JLm (E7 d) O ?_
 refine JLg (BL (decide ((d:Int) < 243))) (J2 O O O) ?_
 refine G6 (p6 ?_)
 refine Gi O (fun hb=>?_) (fun hb=>?_)
 ·
  have i1:=G73 hb
  obtain⟨s1,p7,h⟩:=G6e i0 i1
  replace h:=J9e p4 h
  refine Gk ?_
  refine p5 ?_
  refine Js fun p8=>?_
  refine Gf ?_
  obtain⟨l,p9,h⟩:=Gd h
  obtain⟨hok_,hy_⟩:=Ho p9
  have hy_:=Ez hy_
  obtain⟨b3,i2⟩:=Es hok_
  obtain⟨n_,hn_⟩:∃ n_:Int,n_=(d:Int):=⟨_,rfl⟩
  rw [← hn_] at b3 i2 hy_
  have en3:n_.tmod 3=n_ % 3:=Int.tmod_eq_emod_of_nonneg b3
  have en2:n_.tmod 2=n_ % 2:=Int.tmod_eq_emod_of_nonneg b3
  have eq3:n_.tdiv 3=n_ / 3:=Int.tdiv_eq_ediv_of_nonneg b3
  refine G4 (fun KA hKA=>?_)
  refine G1 ?_
  refine JLg (.ms 40000030 0 3 3) (Qb7 40000030 rfl rfl rfl rfl SpecSF.H64 SpecSF.elS SpecSF.Rc1 rfl rfl (by simp only [maxLen]; omega)) ?_
  refine Je6 40000030 40000900 22 3 3 rfl (by decide) (by omega) (R74 (P:=fun j=>lk _ (40000900+j)=none) ⟨rfl,rfl,rfl,rfl,rfl,rfl⟩) ?_
  refine JLm (E7 d) O ?_
  refine JLg (I64 ((d:Int).tmod 3)) (J4b (by decide) rfl rfl rfl rfl) ?_
  refine JLg (I64 (1+(d:Int).tmod 3)) (Hz (G1d (by rw [← hn_]; omega) (by rw [← hn_]; omega)) rfl rfl rfl) ?_
  refine JLg (.agg [.ms 40000030 0 3 3,I64 (1+(d:Int).tmod 3)]) (Jf (cs:=[.ms 40000030 0 3 3,I64 (1+(d:Int).tmod 3)]) [(0,1),(1,1)] [.sc (.slice none 0 0),I64 0] [.slice none 0 0,E0] SpecSF.plY SpecSF.Hde (zzQ O) O O) ?_
  refine JLg (.ptr 40000003 0) (Ji 40000003 2 SpecSF.Jaa O O) ?_
  refine Jb (u:=.junk) (Hu (u:=.agg [.ms 40000030 0 3 3,I64 (1+(d:Int).tmod 3)]) (ds:=[.ms 40000030 0 3 3,I64 (1+(d:Int).tmod 3)]) SpecSF.szY O O O O O O O O) ?_
  refine G6 (hKA _ _ ?_)
  refine G4 (fun KB hKB=>?_)
  refine G4 (fun KC hKC=>?_)
  refine G1 ?_
  refine JLm (E7 d) O ?_
  refine JLg (I64 ((d:Int).tdiv 3)) (R64 (by decide) (G1d (by rw [← hn_]; omega) (by rw [← hn_]; omega)) rfl rfl rfl) ?_
  refine JLm (I64 1) O ?_
  refine JLm (I64 ((d:Int).tdiv 3)) O ?_
  refine G6 (hKC _ _ ?_)
  refine Gf ?_
  refine Hbb (X:=Nat×List (List Int)×Int) (fun q=>q.1≤4∧q.2.1.length=3∧(∀ s∈q.2.1,s.length≤q.1)∧0≤q.2.2∧q.2.2≤1000∧Gba (d:Int) (4 - q.1) (q.1+1) q.2.2 q.2.1=l) (fun q=>[(1,LS 1 (E1) ([[],[1],[4,2],[1,2,3,4],[2,2],[5]])),(2,E7 d),(3,.ptr 40000003 0),(4,I64 ((q.1+1:Nat):Int)),(5,I64 q.2.2)]) (fun q=>Mos (1+(d:Int).tmod 3) q.2.1) (fun q=>4 - q.1) (0,[[],[],[]],(d:Int).tdiv 3) ⟨Nat.zero_le _,rfl,by simp,by rw [← hn_]; show 0≤n_.tdiv 3; omega,by rw [← hn_]; show n_.tdiv 3≤1000; omega,by rw [← hn_]; exact hy_⟩ ⟨(.sm O O),⟨⟨_,rfl,.boxEq rfl rfl⟩,⟨_,rfl,.box rfl (J6e (rows:=[[],[],[]]) (by decide))⟩,⟨_,rfl,.same⟩,⟨_,rfl,.same⟩,⟨_,rfl,.same⟩,⟨_,rfl,.same⟩,⟨_,rfl,.same⟩,⟨_,rfl,.same⟩,trivial⟩,rfl⟩ ?_
  rintro⟨j,rows,left⟩ ⟨hj,hrl,hlow,c4,i3,hR⟩ KD eD
  dsimp only at hj hrl hlow c4 i3 hR eD ⊢
  refine G4 (fun KE hKE=>?_)
  refine G4 (fun KF hKF=>?_)
  refine G1 ?_
  refine JLm (I64 ((j+1:Nat):Int)) O ?_
  refine JLg (BL (decide (((j+1:Nat):Int)≤4))) (R0f O O O) ?_
  refine G6 (hKF _ _ ?_)
  refine Gi O (fun hb=>?_) (fun hb=>?_)
  ·have hb:=Es hb
   have c9:j < 4:=by omega
   have el3:left.tmod 3=left % 3:=Int.tmod_eq_emod_of_nonneg c4
   have elq:left.tdiv 3=left / 3:=Int.tdiv_eq_ediv_of_nonneg c4
   obtain⟨m,hm⟩:∃ m:Nat,left.tmod 3=(m:Int):=⟨(left % 3).toNat,by omega⟩
   have i4:m < 3:=by omega
   have hmr:m < rows.length:=by omega
   obtain⟨s,hs⟩:∃ s,rows[m]? = some s:=⟨_,Ey hmr⟩
   have hgd:rows.getD m []=s:=by rw [List.getD_eq_getElem?_getD,hs]; rfl
   have hsl:=hlow s (K0 hs)
   obtain⟨v,hv⟩:∃ v,v=(((j+1:Nat):Int)+(d:Int).tmod 2).tmod 4+1:=⟨_,rfl⟩
   have hstep:Gba (d:Int) (4 - j) (j+1) left rows=Gba (d:Int) (4 - (j+1)) (j+1+1) (left.tdiv 3) (rows.set m (s++[v])):=by
    rw [show 4 - j=(4 - (j+1))+1 by omega,Gba,hm,show ((m:Int)).toNat=m by omega,hgd,← hv]
   rw [hstep] at hR
   have s2 : -3≤(((j+1:Nat):Int)+(d:Int).tmod 2).tmod 4∧(((j+1:Nat):Int)+(d:Int).tmod 2).tmod 4≤3:=by
    rw [← hn_,Int.tmod_eq_emod_of_nonneg (by omega)]; omega
   refine Gk ?_
   refine hKE _ _ ?_
   refine G4 (fun KG hKG=>?_)
   refine Gf ?_
   have k2:lk ((40000900+m,.spare 3 1 (s++[v]).length (s++[v]).length)::Mos (1+(d:Int).tmod 3) rows) 40000003=some (.box 25 [.ms 40000030 0 3 3,I64 (1+(d:Int).tmod 3)]):=by rw [G9,if_neg (by omega)]; rfl
   have k3:lk ((40000900+m,.spare 3 1 (s++[v]).length (s++[v]).length)::Mos (1+(d:Int).tmod 3) rows) 40000030=some (.box 22 (G31 40000900 rows)):=by rw [G9,if_neg (by omega)]; rfl
   have ks:lk (Mos (1+(d:Int).tmod 3) rows) (40000900+m)=some (.spare 3 1 s.length s.length):=by rw [Qdc (by omega),hgd]
   refine Ju [17,19] [0,0,0,0,0,0,0,0,0,0,0,0,0,0,0,0,0,0,1,0] [1,1,1,1,0,0,0,0,0,0,0,0,0,0,0,0,0,0,1,0] [Mos (1+(d:Int).tmod 3) rows,(40000900+m,.spare 3 1 (s++[v]).length (s++[v]).length)::Mos (1+(d:Int).tmod 3) rows,(40000030,.box 22 (G31 40000900 (rows.set m (s++[v]))))::(40000900+m,.spare 3 1 (s++[v]).length (s++[v]).length)::Mos (1+(d:Int).tmod 3) rows] SpecSF.mixed (by kernel_rfl) rfl rfl ?_
   refine Gc (u:=.ptr 40000003 0) O O ⟨Ga (Hs SpecSF.G4b O O) O,Ga (Hs SpecSF.G4b O O) O,ø⟩ ?_
   refine Gc (u:=.ms 40000030 0 3 3) O O ⟨Ga (Ht SpecSF.H82 O O O O) O,Ga (Ht SpecSF.H82 O O k2 O) O,ø⟩ ?_
   refine Gc (u:=I64 left) O O ⟨Ga (G3 O O) O,Ga (G3 O O) O,ø⟩ ?_
   refine Gc (u:=I64 (m:Int)) rfl rfl ⟨Ga (J4b (by decide) hm rfl rfl rfl) rfl,Ga (J4b (by decide) hm rfl rfl rfl) rfl,ø⟩ ?_
   refine Gc (u:=.ptr 40000003 0) O O ⟨Ga (Hs SpecSF.G4b O O) O,ø⟩ ?_
   refine Gc (u:=.ms 40000030 0 3 3) O O ⟨Ga (Ht SpecSF.H82 O O O O) O,ø⟩ ?_
   refine Gc (u:=I64 left) O O ⟨Ga (G3 O O) O,ø⟩ ?_
   refine Gc (u:=I64 (m:Int)) rfl rfl ⟨Ga (J4b (by decide) hm rfl rfl rfl) rfl,ø⟩ ?_
   refine Gc (u:=.ptr 40000030 (0+m)) O O ⟨Ga (Q85 O O O O SpecSF.H64 O i4) O,ø⟩ ?_
   refine Gc (u:=OW (40000900+m) 1 I64 s) rfl rfl ⟨Ga (Jf1 SpecSF.scS rfl rfl rfl (by rw [Nat.zero_add]; exact Gf5 hs)) rfl,ø⟩ ?_
   refine Gc (u:=I64 ((j+1:Nat):Int)) O O ⟨Ga (G3 O O) O,ø⟩ ?_
   refine Gc (u:=E7 d) O O ⟨Ga (G3 O O) O,ø⟩ ?_
   refine Gc (u:=I64 ((d:Int).tmod 2)) rfl rfl ⟨Ga (J4b (by decide) rfl rfl rfl rfl) rfl,ø⟩ ?_
   refine Gc (u:=I64 (((j+1:Nat):Int)+(d:Int).tmod 2)) rfl rfl ⟨Ga (Hz (G1d (by rw [← hn_]; omega) (by rw [← hn_]; omega)) rfl rfl rfl) rfl,ø⟩ ?_
   refine Gc (u:=I64 ((((j+1:Nat):Int)+(d:Int).tmod 2).tmod 4)) rfl rfl ⟨Ga (J4b (by decide) rfl rfl rfl rfl) rfl,ø⟩ ?_
   refine Gc (u:=I64 v) rfl rfl ⟨Ga (Hz (by rw [hv]; exact G1d (by omega) (by omega)) rfl rfl rfl) rfl,ø⟩ ?_
   refine Gc (u:=E1 [v]) O O ⟨Ga (H4 (xs:=[I64 v]) O ⟨O,O,ø⟩ SpecSF.slS SpecSF.R6c O O O O) O,ø⟩ ?_
   refine D_w (u:=OW (40000900+m) 1 I64 (s++[v])) rfl rfl rfl rfl (Ga (R3 (f:=I64) (xs:=s) (ys:=[v]) rfl rfl ks rfl SpecSF.slS SpecSF.elI (Ev ⟨by simp only [Kj]; omega,by simp only [Kj,maxLen]; omega⟩) (fun _=>rfl) (.inl rfl) rfl) rfl) ?_
   refine Gc (u:=.ptr 40000030 (0+m)) O O ⟨Ga (Q85 O O O k3 SpecSF.H64 O i4) O,ø⟩ ?_
   refine H2a (u:=.junk) rfl rfl rfl rfl (Ga (H62 SpecSF.szS rfl rfl rfl k3 rfl rfl (by rw [Gc1]; omega) (by rw [Nat.zero_add]; exact Qaa)) rfl) ?_
   refine Rx ?_
   refine hKG _ _ ?_
   refine Qfd (R28 (h:=1+(d:Int).tmod 3) (rows:=rows) (j:=m) (s:=s++[v]) hmr (by omega)) ?_
   refine G1 ?_
   refine JLm (I64 ((j+1:Nat):Int)) O ?_
   refine JLg (I64 ((j+1+1:Nat):Int)) (Hz (by rw [show (((j+1:Nat):Int)+1)=((j+1+1:Nat):Int) by omega]; exact G1d (by omega) (by omega)) rfl rfl rfl) ?_
   refine JLm (I64 left) O ?_
   refine JLg (I64 (left.tdiv 3)) (R64 (by decide) (G1d (by omega) (by omega)) rfl rfl rfl) ?_
   refine JLm (I64 ((j+1+1:Nat):Int)) O ?_
   refine JLm (I64 (left.tdiv 3)) O ?_
   refine G6 ?_
   exact eD _ _ (j+1,rows.set m (s++[v]),left.tdiv 3) ⟨c9,by rw [List.length_set]; exact hrl,R2b hlow hsl,by show 0≤left.tdiv 3; omega,by show left.tdiv 3≤1000; omega,hR⟩ (by show 4 - (j+1) < 4 - j; omega) ⟨(.sm O O),Qd7 (by show (rows.set m (s++[v])).length≤6; rw [List.length_set]; omega),rfl⟩
  have hb:=Eu hb
  have c9:j=4:=by omega
  subst c9
  have hR:rows=l:=hR
  refine Hd ?_
  refine hKB _ _ ?_
  have d0:rows.length=3:=hrl
  refine Q4a (Y:=40000003) (i:=40000030) (p:=40000900) (rows:=rows) (r:=[I64 (1+(d:Int).tmod 3)]) [(1,LS 1 (E1) ([[],[1],[4,2],[1,2,3,4],[2,2],[5]])),(2,E7 d),(3,.ptr 40000003 0)] [(40000003,.box 25 [.junk,I64 (1+(d:Int).tmod 3)])] (by rw [d0]; rfl) rfl ⟨(.sm O O),⟨fbQ O ⟨.junk,.same rfl,ø⟩,ø⟩,rfl⟩ rfl rfl ?_
  rw [hR]
  clear hok_ hy_ b3 i2 hn_ en3 en2 eq3 eD hj hrl hlow c4 i3 hR hb d0
  refine Js fun i7=>?_
  refine R0 (l':=[(1,LS 1 (E1) ([[],[1],[4,2],[1,2,3,4],[2,2],[5]])),(2,E7 d),(3,.ptr 40000003 0)]) (L':=[(40000003,.box 25 [LS 1 (E1) l,I64 (1+(d:Int).tmod 3)])]) ⟨(.sm O O),⟨⟨_,O,.boxL O (.sm O O)⟩,ø⟩,O⟩ ?_
  obtain⟨x,d1,h⟩:=Gd h
  refine Ju [6,7] [0,0,0,0,0,0,0,0] [1,1,1,1,1,1,0,0] [[(40000003,.box 25 [LS 1 (E1) l,I64 (1+(d:Int).tmod 3)])],((1001,.box 25 [.junk,.junk])::[(40000003,.box 25 [LS 1 (E1) l,I64 (1+(d:Int).tmod 3)])]),((1001,.box 25 [LS 1 (E1) (l.take x),I64 (1+(d:Int).tmod 3)])::((1001,.box 25 [.junk,.junk])::[(40000003,.box 25 [LS 1 (E1) l,I64 (1+(d:Int).tmod 3)])]))] Jg (by kernel_rfl) rfl rfl ?_
  refine Gc (u:=.ptr 40000003 0) O O ⟨Ga (Hs J8 O O) O,Ga (Hs J8 O O) O,ø⟩ ?_
  refine Gc (u:=LS 1 (E1) l) O O ⟨Ga (Ht Gv O O O O) O,Ga (Ht Gv O O O O) O,ø⟩ ?_
  refine Gc (u:=LS 1 (E1) (l.take x)) O O ⟨Ga (G43 (f:=(E1)) (xs:=l) O O O Ge (H8 d1)) O,Ga (G43 (f:=(E1)) (xs:=l) O O O Ge (H8 d1)) O,ø⟩ ?_
  refine Gc (u:=.ptr 40000003 1) O O ⟨Ga (Hs Rt O O) O,Ga (Hs Rt O O) O,ø⟩ ?_
  refine Gc (u:=I64 (1+(d:Int).tmod 3)) O O ⟨Ga (Ht Gj O O O O) O,Ga (Ht Gj O O O O) O,ø⟩ ?_
  refine Gc (u:=.agg [LS 1 (E1) (l.take x),I64 (1+(d:Int).tmod 3)]) O O ⟨Ga (Jf (cs:=[LS 1 (E1) (l.take x),I64 (1+(d:Int).tmod 3)]) [(0,1),(1,1)] [LS 1 (E1) ([]:List (List Int)),I64 0] [.slice none 0 0,E0] G20 G36 ⟨.inr ⟨_,O,O⟩,.inl O,ø⟩ O O) O,Ga (Jf (cs:=[LS 1 (E1) (l.take x),I64 (1+(d:Int).tmod 3)]) [(0,1),(1,1)] [LS 1 (E1) ([]:List (List Int)),I64 0] [.slice none 0 0,E0] G20 G36 ⟨.inr ⟨_,O,O⟩,.inl O,ø⟩ O O) O,ø⟩ ?_
  refine D_w (u:=.ptr 1001 0) O O O O (Ga (Ji 1001 2 Zx O O) O) ?_
  refine H2a (u:=.junk) O O O O (Ga (Hu (u:=.agg [LS 1 (E1) (l.take x),I64 (1+(d:Int).tmod 3)]) (ds:=[LS 1 (E1) (l.take x),I64 (1+(d:Int).tmod 3)]) Zn O O O O O O O O) O) ?_
  refine Rx ?_
  refine i7 ?_
  refine fzQ [(1,LS 1 (E1) ([[],[1],[4,2],[1,2,3,4],[2,2],[5]])),(2,E7 d),(3,.dptr [LS 1 (E1) l,I64 (1+(d:Int).tmod 3)]),(6,.ptr 1001 0)] [(1001,.box 25 [LS 1 (E1) (l.take x),I64 (1+(d:Int).tmod 3)])] 40000003 rfl rfl rfl ⟨⟨_,rfl,.boxEq rfl rfl⟩,ø⟩ rfl ?_
  refine fzQ [(1,LS 1 (E1) ([[],[1],[4,2],[1,2,3,4],[2,2],[5]])),(2,E7 d),(3,.dptr [LS 1 (E1) l,I64 (1+(d:Int).tmod 3)]),(6,.dptr [LS 1 (E1) (l.take x),I64 (1+(d:Int).tmod 3)])] [] 1001 rfl rfl rfl ø rfl ?_
  refine Jr fun i8=>?_
  refine JLm (LS 1 (E1) ([[],[1],[4,2],[1,2,3,4],[2,2],[5]])) O ?_
  refine JLl Ge O O O fun i9=>?_
  refine JLm (I64 0) O ?_
  refine G6 (i8 ?_)
  refine Gf ?_
  obtain⟨q1,j0,j1,e2,h⟩:=J7 h
  refine Ha (fun a1 (c5:Unit)=>each q1 j0 (List.drop a1 ([[],[1],[4,2],[1,2,3,4],[2,2],[5]])) a1 c5=some r) (fun a1 c5=>[(1,LS 1 (E1) ([[],[1],[4,2],[1,2,3,4],[2,2],[5]])),(2,E7 d),(3,.dptr [LS 1 (E1) l,I64 (1+(d:Int).tmod 3)]),(6,.dptr [LS 1 (E1) (l.take x),I64 (1+(d:Int).tmod 3)]),(68,LS 1 (E1) ([[],[1],[4,2],[1,2,3,4],[2,2],[5]])),(69,I64 (([[],[1],[4,2],[1,2,3,4],[2,2],[5]]).length:Int)),(70,E7 a1)]) (fun a1 c5=>[]) (fun a1=>([[],[1],[4,2],[1,2,3,4],[2,2],[5]]).length - a1) 0 () h ⟨(.sm O O),ø,rfl⟩ ?_
  clear h
  intro a1 c5 d2 s3 q2
  refine Jr fun j2=>?_
  refine JLg (BL (decide ((a1:Int) < (([[],[1],[4,2],[1,2,3,4],[2,2],[5]]).length:Int)))) (J2 O O O) ?_
  refine G6 (j2 ?_)
  refine Js fun j3=>?_
  refine Gi O (fun hb=>?_) (fun hb=>?_)
  ·
   have d3:=Jp hb
   obtain⟨s4,r4,r5,j4,h⟩:=Hw d2 d3
   replace h:=Yw j1 h
   refine Gk ?_
   refine j3 ?_
   refine Js fun j5=>?_
   refine Gf ?_
   refine Jr fun j6=>?_
   obtain⟨s6,o,j7,j8,h⟩:=Rf h
   refine JLg (.dptr [E1 o]) (Gz (f:=(E1)) (xs:=([[],[1],[4,2],[1,2,3,4],[2,2],[5]])) (y:=o) O O O Ge j8 j7) ?_
   refine JLg (E1 o) (Gr H5 O O O) ?_
   refine JLm (E1 o) O ?_
   refine G6 (j6 ?_)
   refine Js fun j9=>?_
   refine Jr fun k0=>?_
   refine JLg (.agg [LS 1 (E1) l,I64 (1+(d:Int).tmod 3)]) (Gt Hf O O O) ?_
   refine JLm (E1 o) O ?_
   obtain⟨s7,k1,h⟩:=Gd h
   obtain⟨ht_,hn_⟩:=Ho h
   clear h
   subst ht_
   have h:=hn_
   clear hn_
   refine JLg (BL true) (Gu O (Zd.down F (Gh.mk l (1+(d:Int).tmod 3)) o true k1) Hc6 ⟨O,O,O,O,ø⟩) ?_
   refine JLg (BL false) (Y4 (b:=true) O O) ?_
   refine JLm (BL false) O ?_
   refine G41 (u:=.agg [LS 1 (E1) l,I64 (1+(d:Int).tmod 3)]) O O O .scf (Gt Hf O O O) ?_ O O O
   refine G41 (u:=E1 o) O O O .scf (G3 O O) ?_ O O O
   obtain⟨s8,k4,h⟩:=Gd h
   obtain⟨ht_,hn_⟩:=Ho h
   clear h
   subst ht_
   have h:=hn_
   clear hn_
   refine G41 (u:=BL true) O O O .scf (Gu O (Yp.down F (Gh.mk l (1+(d:Int).tmod 3)) o true k4) H4c ⟨O,O,O,O,ø⟩) ?_ O O O
   refine G41 (u:=BL false) O O O .scf (Y4 (b:=true) O O) ?_ O O O
   refine JLg (BL false) (Hc0 false O O O) ?_
   refine JLm (BL false) O ?_
   refine G41 (u:=.agg [LS 1 (E1) (l.take x),I64 (1+(d:Int).tmod 3)]) O O O .scf (Gt Hf O O O) ?_ O O O
   refine G41 (u:=E1 o) O O O .scf (G3 O O) ?_ O O O
   obtain⟨s9,k5,h⟩:=Gd h
   obtain⟨ht_,hn_⟩:=Ho h
   clear h
   subst ht_
   have h:=hn_
   clear hn_
   refine G41 (u:=BL true) O O O .scf (Gu O (Zd.down F (Gh.mk (l.take x) (1+(d:Int).tmod 3)) o true k5) Hc6 ⟨O,O,O,O,ø⟩) ?_ O O O
   refine G41 (u:=BL false) O O O .scf (Y4 (b:=true) O O) ?_ O O O
   refine JLg (BL false) (Hc0 false O O O) ?_
   refine JLm (BL false) O ?_
   refine G41 (u:=.agg [LS 1 (E1) (l.take x),I64 (1+(d:Int).tmod 3)]) O O O .scf (Gt Hf O O O) ?_ O O O
   refine G41 (u:=E1 o) O O O .scf (G3 O O) ?_ O O O
   obtain⟨t0,k6,h⟩:=Gd h
   obtain⟨ht_,hn_⟩:=Ho h
   clear h
   subst ht_
   have h:=hn_
   clear hn_
   refine G41 (u:=BL true) O O O .scf (Gu O (Yp.down F (Gh.mk (l.take x) (1+(d:Int).tmod 3)) o true k6) H4c ⟨O,O,O,O,ø⟩) ?_ O O O
   refine G41 (u:=BL false) O O O .scf (Y4 (b:=true) O O) ?_ O O O
   refine JLg (BL false) (Hc0 false O O O) ?_
   refine G6 (k0 ?_)
   refine J43 O ?_
   refine Gk ?_
   refine j9 ?_
   refine Jr fun k7=>?_
   refine JLg (.agg [LS 1 (E1) l,I64 (1+(d:Int).tmod 3)]) (Gt Hf O O O) ?_
   refine JLm (E1 o) O ?_
   obtain⟨a4,k8,h⟩:=Gd h
   refine JLg (.tup [E3 a4.1,I64 a4.2]) (Gu O (G3f F (Gs.mk l (1+(d:Int).tmod 3)) o a4 k8) J61 ⟨O,O,O,O,ø⟩) ?_
   refine JLm (.tup [E3 a4.1,I64 a4.2]) O ?_
   refine JLg (E3 a4.1) (Gw O O O) ?_
   refine JLg (I64 a4.2) (Gw O O O) ?_
   refine JLm (E3 a4.1) O ?_
   refine JLm (I64 a4.2) O ?_
   refine G6 (k7 ?_)
   refine Jr fun k9=>?_
   refine JLm (E3 a4.1) O ?_
   obtain⟨a,l0,h⟩:=Gd h
   refine JLg (OW 1015 2 G2.av a) (H63 (args:=[E3 a4.1]) (L0:=[]) (Lr:=[(1015,.spare 35 2 a.length a.length)]) O (Gfb a4.1 a l0) Hc5 ⟨.inl O,O,ø⟩ ø O O O) ?_
   refine JLm (OW 1015 2 G2.av a) O ?_
   refine G6 (k9 ?_)
   refine Js fun l1=>?_
   refine Js fun l2=>?_
   refine R0 (l':=[(1,LS 1 (E1) ([[],[1],[4,2],[1,2,3,4],[2,2],[5]])),(2,E7 d),(3,.dptr [LS 1 (E1) l,I64 (1+(d:Int).tmod 3)]),(6,.dptr [LS 1 (E1) (l.take x),I64 (1+(d:Int).tmod 3)]),(8,E1 o),(11,OW 1015 2 G2.av a),(68,LS 1 (E1) ([[],[1],[4,2],[1,2,3,4],[2,2],[5]])),(69,I64 (([[],[1],[4,2],[1,2,3,4],[2,2],[5]]).length:Int)),(70,E7 a1),(79,.agg [LS 1 (E1) l,I64 (1+(d:Int).tmod 3)]),(80,E1 o),(81,BL true),(82,BL false),(85,.agg [LS 1 (E1) (l.take x),I64 (1+(d:Int).tmod 3)]),(86,E1 o),(87,BL true),(88,BL false),(91,.agg [LS 1 (E1) (l.take x),I64 (1+(d:Int).tmod 3)]),(92,E1 o),(93,BL true),(94,BL false)]) (L':=[(1015,.spare 35 2 a.length a.length)]) ⟨(.sm O O),⟨⟨_,rfl,.same⟩,ø⟩,rfl⟩ ?_
   obtain⟨t1,l3,h⟩:=Gd h
   obtain⟨ht_,hn_⟩:=Ho h
   clear h
   subst ht_
   have h:=hn_
   clear hn_
   obtain⟨l4,h⟩:=Ho h
   obtain⟨t2,l5,h⟩:=Gd h
   obtain⟨ht_,hn_⟩:=Ho h
   clear h
   subst ht_
   have h:=hn_
   clear hn_
   refine Ju [11] [0,0,0,0,0,0,0,0,0,0,0,0,1,1,1] [0,0,0,0,0,0,1,1,0,0,0,0,1,1,1] [[(1015,.spare 35 2 a.length a.length)],((1015,.spare 35 2 (a++[(G2.mk 0 1)]).length (a++[(G2.mk 0 1)]).length)::[(1015,.spare 35 2 a.length a.length)])] Jg (by kernel_rfl) rfl rfl ?_
   refine Gc (u:=.agg [LS 1 (E1) l,I64 (1+(d:Int).tmod 3)]) O O ⟨Ga (Gt Hf O O O) O,ø⟩ ?_
   refine Gc (u:=E1 o) O O ⟨Ga (G3 O O) O,ø⟩ ?_
   refine Gc (u:=OW 1015 2 G2.av a) O O ⟨Ga (G3 O O) O,ø⟩ ?_
   refine Gc (u:=BL true) O O ⟨Ga (Gu O (Yg.down F (Gh.mk l (1+(d:Int).tmod 3)) o a true l3) H4b ⟨O,O,O,O,O,O,ø⟩) O,ø⟩ ?_
   refine Gc (u:=BL false) O O ⟨Ga (Y4 (b:=true) O O) O,ø⟩ ?_
   refine Gc (u:=BL false) O O ⟨Ga (G3 O O) O,ø⟩ ?_
   refine Gc (u:=.agg [LS 1 (E1) l,I64 (1+(d:Int).tmod 3)]) O O ⟨H71 O O O .scf (Gt Hf O O O),H71 O O O .scf (Gt Hf O O O),ø⟩ ?_
   refine Gc (u:=E1 o) O O ⟨H71 O O O .scf (G3 O O),H71 O O O .scf (G3 O O),ø⟩ ?_
   refine Gc (u:=OW 1015 2 G2.av a) O O ⟨H71 O O O .scf (G3 O O),ø⟩ ?_
   refine Gc (u:=.agg [I64 0,I64 1]) O O ⟨H71 O O O .scf (Jf (cs:=[I64 0,I64 1]) [(0,1),(1,1)] [I64 0,I64 0] [E0,E0] G1f G5a (zzQ O) O O),ø⟩ ?_
   refine Gc (u:=E2 [(G2.mk 0 1)]) O O ⟨H71 O O O .scf (H4 (xs:=[.agg [I64 0,I64 1]]) O ⟨O,O,ø⟩ Hk G1a O O O O),ø⟩ ?_
   refine D_w (u:=OW 1015 2 G2.av (a++[(G2.mk 0 1)])) O O O O (H71 O O O .scf (R3 (f:=G2.av) (xs:=a) (ys:=[(G2.mk 0 1)]) O O O O Hk G21 l4 (fun _=>O) (.inl O) O)) ?_
   refine Gc (u:=BL true) O O ⟨H71 O O O .scf (Gu O (Yg.down F (Gh.mk l (1+(d:Int).tmod 3)) o (a++[(G2.mk 0 1)]) true l5) H4b ⟨O,O,O,O,O,O,ø⟩),ø⟩ ?_
   refine Gc (u:=BL false) O O ⟨H71 O O O .scf (Y4 (b:=true) O O),ø⟩ ?_
   refine Gc (u:=BL false) O O ⟨Ga (Hc0 false O O O) O,ø⟩ ?_
   refine Rx ?_
   refine l2 ?_
   refine J43 O ?_
   refine Gk ?_
   refine l1 ?_
   refine Jr fun l6=>?_
   refine JLm (I64 0) O ?_
   refine G6 (l6 ?_)
   refine Gf ?_
   obtain⟨q3,l7,l8,e3,h⟩:=J7 h
   refine Ha (fun t (c6:Unit)=>each q3 l7 (List.drop t a) t c6=some r) (fun t c6=>[(1,LS 1 (E1) ([[],[1],[4,2],[1,2,3,4],[2,2],[5]])),(2,E7 d),(3,.dptr [LS 1 (E1) l,I64 (1+(d:Int).tmod 3)]),(6,.dptr [LS 1 (E1) (l.take x),I64 (1+(d:Int).tmod 3)]),(8,E1 o),(11,OW 1015 2 G2.av a),(12,E7 t),(68,LS 1 (E1) ([[],[1],[4,2],[1,2,3,4],[2,2],[5]])),(69,I64 (([[],[1],[4,2],[1,2,3,4],[2,2],[5]]).length:Int)),(70,E7 a1),(79,.agg [LS 1 (E1) l,I64 (1+(d:Int).tmod 3)]),(80,E1 o),(81,BL true),(82,BL false),(85,.agg [LS 1 (E1) (l.take x),I64 (1+(d:Int).tmod 3)]),(86,E1 o),(87,BL true),(88,BL false),(91,.agg [LS 1 (E1) (l.take x),I64 (1+(d:Int).tmod 3)]),(92,E1 o),(93,BL true),(94,BL false),(110,.agg [LS 1 (E1) l,I64 (1+(d:Int).tmod 3)]),(111,E1 o),(112,OW 1015 2 G2.av a),(113,.agg [I64 0,I64 1]),(114,E2 [(G2.mk 0 1)]),(115,OW 1015 2 G2.av (a++[(G2.mk 0 1)])),(116,BL true),(117,BL false)]) (fun t c6=>[(1015,.spare 35 2 (a++[(G2.mk 0 1)]).length (a++[(G2.mk 0 1)]).length)]) (fun t=>a.length - t) 0 () h ⟨(.sm O O),⟨⟨_,rfl,.same⟩,ø⟩,rfl⟩ ?_
   clear h
   intro t c6 d4 t3 q4
   refine Js fun l9=>?_
   refine Jr fun m0=>?_
   refine JLm (E7 t) O ?_
   refine JLm (OW 1015 2 G2.av a) O ?_
   refine JLl Hk O O O fun a9=>?_
   refine JLg (BL (decide ((t:Int) < (a.length:Int)))) (J2 O O O) ?_
   refine G6 (m0 ?_)
   refine Gi O (fun hb=>?_) (fun hb=>?_)
   ·
    have b0:=Jp hb
    obtain⟨t4,r6,r7,m1,h⟩:=Hw d4 b0
    replace h:=Yw l8 h
    refine Gk ?_
    refine l9 ?_
    refine Js fun m2=>?_
    refine Gf ?_
    refine Js fun m3=>?_
    refine R0 (l':=[(1,LS 1 (E1) ([[],[1],[4,2],[1,2,3,4],[2,2],[5]])),(2,E7 d),(3,.dptr [LS 1 (E1) l,I64 (1+(d:Int).tmod 3)]),(6,.dptr [LS 1 (E1) (l.take x),I64 (1+(d:Int).tmod 3)]),(8,E1 o),(11,OW 1015 2 G2.av a),(12,E7 t),(68,LS 1 (E1) ([[],[1],[4,2],[1,2,3,4],[2,2],[5]])),(69,I64 (([[],[1],[4,2],[1,2,3,4],[2,2],[5]]).length:Int)),(70,E7 a1),(79,.agg [LS 1 (E1) l,I64 (1+(d:Int).tmod 3)]),(80,E1 o),(81,BL true),(82,BL false),(85,.agg [LS 1 (E1) (l.take x),I64 (1+(d:Int).tmod 3)]),(86,E1 o),(87,BL true),(88,BL false),(91,.agg [LS 1 (E1) (l.take x),I64 (1+(d:Int).tmod 3)]),(92,E1 o),(93,BL true),(94,BL false),(110,.agg [LS 1 (E1) l,I64 (1+(d:Int).tmod 3)]),(111,E1 o),(112,OW 1015 2 G2.av a),(113,.agg [I64 0,I64 1]),(114,E2 [(G2.mk 0 1)]),(115,OW 1015 2 G2.av (a++[(G2.mk 0 1)])),(116,BL true),(117,BL false)]) (L':=[(1015,.spare 35 2 (a++[(G2.mk 0 1)]).length (a++[(G2.mk 0 1)]).length)]) ⟨(.sm O O),⟨⟨_,rfl,.same⟩,ø⟩,rfl⟩ ?_
    obtain⟨a2,d5,h⟩:=Gd h
    obtain⟨m4,h⟩:=Ho h
    obtain⟨a8,b8,h⟩:=Gd h
    obtain⟨m5,h⟩:=Ho h
    refine Ju [0,4,9] [0,0,0,0,0,0,0,0,0,0,3] [0,1,1,1,0,2,2,2,2,0,3] [[(1015,.spare 35 2 (a++[(G2.mk 0 1)]).length (a++[(G2.mk 0 1)]).length)],((1004,.spare 35 2 ([]:List G2).length ([]:List G2).length)::[(1015,.spare 35 2 (a++[(G2.mk 0 1)]).length (a++[(G2.mk 0 1)]).length)]),((1004,.spare 35 2 (([]:List G2)++(a.take a2)).length (([]:List G2)++(a.take a2)).length)::((1004,.spare 35 2 ([]:List G2).length ([]:List G2).length)::[(1015,.spare 35 2 (a++[(G2.mk 0 1)]).length (a++[(G2.mk 0 1)]).length)])),((1004,.spare 35 2 ((([]:List G2)++(a.take a2))++(a.drop a8)).length ((([]:List G2)++(a.take a2))++(a.drop a8)).length)::((1004,.spare 35 2 (([]:List G2)++(a.take a2)).length (([]:List G2)++(a.take a2)).length)::((1004,.spare 35 2 ([]:List G2).length ([]:List G2).length)::[(1015,.spare 35 2 (a++[(G2.mk 0 1)]).length (a++[(G2.mk 0 1)]).length)])))] Jg (by kernel_rfl) rfl rfl ?_
    refine D_w (u:=OW 1004 2 G2.av ([]:List G2)) O O O O (Ga (Gc7 1004 35 2 O O Hk) O) ?_
    refine Gc (u:=OW 1015 2 G2.av a) O O ⟨Ga (G3 O O) O,Ga (G3 O O) O,ø⟩ ?_
    refine Gc (u:=E7 t) O O ⟨Ga (G3 O O) O,Ga (G3 O O) O,ø⟩ ?_
    refine Gc (u:=E2 (a.take a2)) O O ⟨Ga (G43 (f:=G2.av) (xs:=a) O O O Hk (H8 d5)) O,Ga (G43 (f:=G2.av) (xs:=a) O O O Hk (H8 d5)) O,ø⟩ ?_
    refine D_w (u:=OW 1004 2 G2.av (([]:List G2)++(a.take a2))) O O O O (Ga (G18 (f:=G2.av) (xs:=([]:List G2)) (ys:=(a.take a2)) O O O O Hk G21 m4 (fun _=>O) (.inl O)) O) ?_
    refine Gc (u:=OW 1015 2 G2.av a) O O ⟨Ga (G3 O O) O,Ga (G3 O O) O,Ga (G3 O O) O,ø⟩ ?_
    refine Gc (u:=E7 t) O O ⟨Ga (G3 O O) O,Ga (G3 O O) O,Ga (G3 O O) O,ø⟩ ?_
    refine Gc (u:=I64 ((t+1:Nat):Int)) O O ⟨Ga (Hz (Hi b0 a9) O O O) O,Ga (Hz (Hi b0 a9) O O O) O,Ga (Hz (Hi b0 a9) O O O) O,ø⟩ ?_
    refine Gc (u:=E2 (a.drop a8)) O O ⟨Ga (H94 (f:=G2.av) (xs:=a) O O O Hk (H8 b8)) O,Ga (H94 (f:=G2.av) (xs:=a) O O O Hk (H8 b8)) O,Ga (H94 (f:=G2.av) (xs:=a) O O O Hk (H8 b8)) O,ø⟩ ?_
    refine D_w (u:=OW 1004 2 G2.av ((([]:List G2)++(a.take a2))++(a.drop a8))) O O O O (Ga (G18 (f:=G2.av) (xs:=(([]:List G2)++(a.take a2))) (ys:=(a.drop a8)) O O O O Hk G21 m5 (fun _=>O) (.inl O)) O) ?_
    refine Gc (u:=OW 1004 2 G2.av ((([]:List G2)++(a.take a2))++(a.drop a8))) O O ⟨Ga (G5 O O) O,ø⟩ ?_
    refine Rx ?_
    refine m3 ?_
    refine Jr fun m6=>?_
    refine JLg (.vec 1005 (([]:List G2).length) 2 (([]:List G2).length)) (R96 1005 35 2 O O Hk) ?_
    refine JLm (OW 1015 2 G2.av a) O ?_
    obtain⟨m7,h⟩:=Ho h
    refine JLg (.vec 1005 ((([]:List G2)++a).length+1) 2 ((([]:List G2)++a).length)) (G5d (f:=G2.av) (xs:=([]:List G2)) (ys:=a) (ver:=(([]:List G2).length)) (ver1:=((([]:List G2)++a).length+1)) rfl rfl rfl rfl Hk G21 m7 (fun _=>rfl) (.inl rfl) (by simp)) ?_
    refine JLm (.vec 1005 ((([]:List G2)++a).length+1) 2 ((([]:List G2)++a).length)) O ?_
    refine G6 (m6 ?_)
    refine Jr fun m8=>?_
    refine JLm (.vec 1005 ((([]:List G2)++a).length+1) 2 ((([]:List G2)++a).length)) O ?_
    refine JLm (E7 t) O ?_
    refine JLm (.vec 1005 ((([]:List G2)++a).length+1) 2 ((([]:List G2)++a).length)) O ?_
    refine JLm (E7 t) O ?_
    obtain⟨d6,e4,d7,h⟩:=Yc h
    refine JLg (.vptr 1005 ((([]:List G2)++a).length+1) ((t:Int).toNat) 0) (Zf (f:=G2.av) (xs:=(([]:List G2)++a)) (y:=d6) O O O O Hk d7 e4) ?_
    refine JLg (.vptr 1005 ((([]:List G2)++a).length+1) ((t:Int).toNat) 1) (Gc6 H6c O O O) ?_
    refine JLg (I64 d6.To) (Gc5 (f:=G2.av) (xs:=(([]:List G2)++a)) (y:=d6) Gj O O O d7 O O) ?_
    obtain⟨q5,m9,h⟩:=Je h
    refine JLg (I64 q5) (Hz m9 O O O) ?_
    obtain⟨b4,d8,h⟩:=Gd h
    refine JLg (I64 b4) (J4b (J6c d8).1 (J6c d8).2 O O O) ?_
    obtain⟨b6,e6,d9,h⟩:=Yc h
    refine JLg (.vptr 1005 ((([]:List G2)++a).length+1) ((t:Int).toNat) 0) (Zf (f:=G2.av) (xs:=(([]:List G2)++a)) (y:=b6) O O O O Hk d9 e6) ?_
    refine JLg (.vptr 1005 ((([]:List G2)++a).length+1) ((t:Int).toNat) 1) (Gc6 H6c O O O) ?_
    refine Jb (u:=.junk) (Qb2 (f:=G2.av) (xs:=(([]:List G2)++a)) (e:=b6) (z:=(G2.mk b6.From b4)) (u:=I64 b4) Gb2 O O O O d9 O O O O O) ?_
    refine G6 (m8 ?_)
    refine Jr fun n0=>?_
    refine JLg (.agg [LS 1 (E1) l,I64 (1+(d:Int).tmod 3)]) (Gt Hf O O O) ?_
    refine JLm (E1 o) O ?_
    refine JLm (OW 1004 2 G2.av ((([]:List G2)++(a.take a2))++(a.drop a8))) O ?_
    obtain⟨t5,n1,h⟩:=Gd h
    obtain⟨ht_,hn_⟩:=Ho h
    clear h
    subst ht_
    have h:=hn_
    clear hn_
    refine JLg (BL true) (Gu O (Yg.down F (Gh.mk l (1+(d:Int).tmod 3)) o ((([]:List G2)++(a.take a2))++(a.drop a8)) true n1) H4b ⟨O,O,O,O,O,O,ø⟩) ?_
    refine JLg (BL false) (Y4 (b:=true) O O) ?_
    refine JLm (BL false) O ?_
    refine G41 (u:=.agg [LS 1 (E1) l,I64 (1+(d:Int).tmod 3)]) O O O .scf (Gt Hf O O O) ?_ O O O
    refine G41 (u:=E1 o) O O O .scf (G3 O O) ?_ O O O
    refine G41 (u:=.vec 1005 ((([]:List G2)++a).length+1) 2 ((([]:List G2)++a).length)) O O O .scf (G3 O O) ?_ O O O
    obtain⟨b7,n2,h⟩:=Gd h
    refine G41 (u:=BL b7) O O O .scf (H1f (args:=[.agg [LS 1 (E1) l,I64 (1+(d:Int).tmod 3)],E1 o,E2 ((([]:List G2)++a).set (t:Int).toNat (G2.mk b6.From b4))]) O (Yg.down F (Gh.mk l (1+(d:Int).tmod 3)) o ((([]:List G2)++a).set (t:Int).toNat (G2.mk b6.From b4)) b7 n2) H4b ⟨.data O O,.data O O,.vec O,ø⟩ O) ?_ O O O
    refine G41 (u:=BL (!b7)) O O O .scf (Y4 (b:=b7) O O) ?_ O O O
    refine JLg (BL (!b7)) (Hc0 false O O O) ?_
    refine G6 (n0 ?_)
    refine JCc O h ?_ ?_<;>intro h hb
    ·
     refine Jr fun n3=>?_
     refine JLm (BL false) O ?_
     refine G6 (n3 ?_)
     refine H0 ?_
     exact fin1 BL h
    ·
     refine Gk ?_
     refine m2 ?_
     refine G1 ?_
     refine JLm (E7 t) O ?_
     refine JLg (I64 ((t+1:Nat):Int)) (Hz (Hi b0 a9) O O O) ?_
     refine JLm (I64 ((t+1:Nat):Int)) O ?_
     refine G6 ?_
     exact q4 _ _ (t+1) () (app1 m1 h) (by omega) ⟨(.sm O O),⟨⟨_,rfl,.same⟩,ø⟩,rfl⟩
   ·
    have h:=app1 e3 (Hx d4 (Hc hb))
    refine Hd ?_
    refine j5 ?_
    refine G1 ?_
    refine JLg (I64 ((a1+1:Nat):Int)) (Hz (Hi d3 i9) O O O) ?_
    refine JLm (I64 ((a1+1:Nat):Int)) O ?_
    refine G6 ?_
    exact q2 _ _ (a1+1) () (app1 j4 h) (by omega) ⟨(.sm O O),ø,rfl⟩
  ·
   have h:=app1 e2 (Hx d2 (Hc hb))
   refine Hd ?_
   refine p8 ?_
   refine G1 ?_
   refine JLm (E7 d) O ?_
   refine JLg (I64 ((d+1:Nat):Int)) (Hz (Hi i1 (G45 p2)) O O O) ?_
   refine JLm (I64 ((d+1:Nat):Int)) O ?_
   refine G6 ?_
   exact e5 _ _ (d+1) () (app1 p7 h) (by omega) ⟨(.sm O O),ø,rfl⟩
 ·
  have h:=app1 i6 (G6f i0 (Zc hb))
  refine Hd ?_
  refine p0 ?_
  refine Js fun n4=>?_
  refine Jr fun n5=>?_
  refine JLm (I64 3) O ?_
  refine G6 (n5 ?_)
  refine Gf ?_
  obtain⟨q6,n6,h⟩:=G0e h
  refine Ha (fun b2 (w:Int)=>loop q6 b2 w=some r) (fun b2 w=>[(15,I64 w)]) (fun b2 w=>[]) (fun b2=>b2) F 3 h ⟨⟨.same O,ø⟩,ø,O⟩ ?_
  clear h
  intro b2 w n7 t6 q7
  obtain⟨q8,r8,hm_97,n8,h⟩:=Z7 n7
  replace h:=H65 n6 h
  refine Js fun n9=>?_
  refine Jr fun o0=>?_
  refine JLm (I64 w) O ?_
  refine JLg (BL (decide (w < 7))) (J2 O O O) ?_
  refine G6 (o0 ?_)
  refine JCc O h ?_ ?_<;>intro h hb
  ·
   refine Gk ?_
   refine n9 ?_
   refine Js fun e7=>?_
   refine Gf ?_
   refine Jr fun e8=>?_
   refine JLg (OW 1002 1 I64 ([]:List Int)) (Ga2 1002 3 1 O O O) ?_
   refine G6 (e8 ?_)
   refine Js fun e9=>?_
   refine Jr fun f0=>?_
   refine JLm (I64 1) O ?_
   refine G6 (f0 ?_)
   refine Gf ?_
   obtain⟨o1,f1,h⟩:=G0e h
   refine Ha (fun a6 (c:(List Int)×Int)=>loop o1 a6 c=some r) (fun a6 c=>[(15,I64 w),(16,OW 1002 1 I64 c.1),(17,I64 c.2)]) (fun a6 c=>[(1002,.spare 3 1 c.1.length c.1.length)]) (fun a6=>a6) F ([],1) h ⟨(.sm O O),⟨⟨_,O,.same⟩,ø⟩,O⟩ ?_
   clear h
   intro a6 c f2 r9 o2
   obtain⟨o3,q9,hm_111,f3,h⟩:=Z7 f2
   replace h:=H65 f1 h
   refine Js fun f4=>?_
   refine Jr fun f5=>?_
   refine JLm (I64 c.2) O ?_
   refine JLm (I64 w) O ?_
   refine JLg (BL (decide (c.2≤w))) (R0f O O O) ?_
   refine G6 (f5 ?_)
   refine JCc O h ?_ ?_<;>intro h hb
   ·
    refine Gk ?_
    refine f4 ?_
    refine Js fun f6=>?_
    refine Gf ?_
    refine G1 ?_
    refine JLm (OW 1002 1 I64 c.1) O ?_
    refine JLm (I64 c.2) O ?_
    refine JLg (E1 [c.2]) (H4 (xs:=[I64 c.2]) O ⟨O,O,ø⟩ G8 J6 O O O O) ?_
    obtain⟨f7,h⟩:=Ho h
    refine JLg (OW 1002 1 I64 (c.1++[c.2])) (R3 (f:=I64) (xs:=c.1) (ys:=[c.2]) O O O O G8 Ro f7 (fun _=>O) (.inl O) O) ?_
    refine JLm (OW 1002 1 I64 (c.1++[c.2])) O ?_
    refine G6 (f6 ?_)
    refine G1 ?_
    refine JLm (I64 c.2) O ?_
    obtain⟨b9,f8,h⟩:=Je h
    refine JLg (I64 b9) (Hz f8 O O O) ?_
    refine JLm (I64 b9) O ?_
    refine G6 ?_
    exact o2 _ _ o3 ((c.1++[c.2]),b9) (app1 f3 h) (by omega) ⟨(.sm O O),⟨⟨_,rfl,.same⟩,ø⟩,rfl⟩
   ·
    refine Hd ?_
    refine e9 ?_
    refine Jr fun f9=>?_
    refine JLm (I64 2) O ?_
    refine G6 (f9 ?_)
    refine Gf ?_
    obtain⟨o4,g0,h⟩:=G0e h
    refine Ha (fun a7 (g:Int)=>loop o4 a7 g=some r) (fun a7 g=>[(15,I64 w),(16,OW 1002 1 I64 c.1),(18,I64 g)]) (fun a7 g=>[(1002,.spare 3 1 c.1.length c.1.length)]) (fun a7=>a7) F 2 h ⟨(.sm O O),⟨⟨_,O,.same⟩,ø⟩,O⟩ ?_
    clear h
    intro a7 g g1 s0 o5
    obtain⟨o6,r0,hm_147,g2,h⟩:=Z7 g1
    replace h:=H65 g0 h
    refine Js fun g3=>?_
    refine Jr fun g4=>?_
    refine JLm (I64 g) O ?_
    refine JLg (BL (decide (g < 6))) (J2 O O O) ?_
    refine G6 (g4 ?_)
    refine JCc O h ?_ ?_<;>intro h hb
    ·
     refine Gk ?_
     refine g3 ?_
     refine Js fun g5=>?_
     refine Gf ?_
     refine Jr fun g6=>?_
     refine JLm (I64 g) O ?_
     obtain⟨k,c7,h⟩:=Gd h
     obtain⟨g7,h⟩:=Ho h
     refine JLg (.vec 1006 0 1 ((List.replicate k ([]:List Int)).length)) (R07 1006 (f:=(E1)) (n:=k) [] [.slice none 0 0] O O O O Ge G3a Jfe (H54 c7) (H54 c7) g7 ⟨.inr ⟨_,O,O⟩,ø⟩ O) ?_
     refine JLg (.agg [.vec 1006 0 1 ((List.replicate k ([]:List Int)).length),I64 6]) (Jf (cs:=[.vec 1006 0 1 ((List.replicate k ([]:List Int)).length),I64 6]) [(0,1),(1,1)] [LS 1 (E1) ([]:List (List Int)),I64 0] [.slice none 0 0,E0] G20 G36 ⟨.inr ⟨_,O,O⟩,.inl O,ø⟩ O O) ?_
     refine JLg (.ptr 1003 0) (Ji 1003 2 Zx O O) ?_
     refine Jb (u:=.junk) (Hu (u:=.agg [.vec 1006 0 1 ((List.replicate k ([]:List Int)).length),I64 6]) (ds:=[.vec 1006 0 1 ((List.replicate k ([]:List Int)).length),I64 6]) Zn O O O O O O O O) ?_
     refine G6 (g6 ?_)
     refine Jr fun g8=>?_
     refine JLg (.ptr 1003 0) (Hs J8 O O) ?_
     refine JLg (.vec 1006 0 1 ((List.replicate k ([]:List Int)).length)) (Ht Gv O O O O) ?_
     refine JLm (I64 g) O ?_
     obtain⟨a0,g9,h⟩:=Je h
     refine JLg (I64 a0) (G07 g9 O O O) ?_
     refine JLm (OW 1002 1 I64 c.1) O ?_
     obtain⟨o7,e0,c8,h⟩:=Yc h
     refine JLg (.vptr 1006 0 a0.toNat 0) (Zf (f:=(E1)) (xs:=(List.replicate k ([]:List Int))) (y:=o7) O O O O Ge c8 e0) ?_
     refine Q7c (l':=[(15,I64 w),(16,OW 1002 1 I64 c.1),(18,I64 g),(19,.ptr 1003 0),(175,I64 g),(176,BL (decide (g < 6))),(179,I64 g),(180,.vec 1006 0 1 ((List.replicate k ([]:List Int)).length)),(181,.agg [.vec 1006 0 1 ((List.replicate k ([]:List Int)).length),I64 6]),(182,.ptr 1003 0),(183,.vec 1006 0 1 ((List.replicate k ([]:List Int)).length)),(184,I64 g),(185,I64 a0),(186,E1 c.1),(187,.vptr 1006 0 a0.toNat 0)]) (L':=[(1002,.spare 3 1 c.1.length c.1.length),(1006,.vec 22 1 0 ((List.replicate k ([]:List Int)).map (E1))),(1003,.box 25 [.vec 1006 0 1 ((List.replicate k ([]:List Int)).length),I64 6])]) ⟨⟨.same O,.same O,.same O,.same O,.same O,.same O,.same O,.same O,.same O,.same O,.same O,.same O,.same O,.list O,.same O,ø⟩,⟨⟨_,O,.same⟩,⟨_,O,.vec⟩,⟨_,O,.boxL O (.sm O O)⟩,ø⟩,O⟩ ?_
     refine Jb (u:=.junk) (Gfe (f:=(E1)) (xs:=(List.replicate k ([]:List Int))) (z:=c.1) Q00 O O O O (Ex c8).1 O O O O) ?_
     refine G6 (g8 ?_)
     refine Js fun h0=>?_
     refine R0 (l':=[(15,I64 w),(16,OW 1002 1 I64 c.1),(18,I64 g),(19,.ptr 1003 0)]) (L':=[(1002,.spare 3 1 c.1.length c.1.length),(1006,.vec 22 1 0 (((List.replicate k ([]:List Int)).set a0.toNat c.1).map (E1))),(1003,.box 25 [.vec 1006 0 1 ((List.replicate k ([]:List Int)).length),I64 6])]) ⟨(.sm O O),⟨⟨_,rfl,.same⟩,⟨_,rfl,.vec⟩,fbQ O (.sm O O),ø⟩,rfl⟩ ?_
     obtain⟨a3,h1,h⟩:=Gd h
     obtain⟨c0,h2,h⟩:=Gd h
     obtain⟨a5,h3,h⟩:=Gd h
     obtain⟨b1,h4,h⟩:=Gd h
     refine JC_d0 Jg (by kernel_rfl) ?_
     refine Dq (I64 w) (G3 O O) O ?_
     refine Dq (BL (decide (w < 5))) (J2 O O O) O ?_
     refine Dq (BL (decide (w < 5))) (G3 O O) O ?_
     refine Do (I64 g) [] O .scf ø (fun hc=>G3 O O) O ?_
     refine Do (BL (decide (g≠4))) [191] O .scf ⟨Ua,ø⟩ (fun hc=>G1c O O O) O ?_
     refine Dq (BL ((decide (w < 5))||(decide (g≠4)))) (G17 O O O O) O ?_
     refine Dq (BL ((decide (w < 5))||(decide (g≠4)))) (G3 O O) O ?_
     refine Do (.agg [.vec 1006 0 1 ((List.replicate k ([]:List Int)).length),I64 6]) [] O .sct ø (fun hc=>Jc Hf O O O O) O ?_
     refine Do (OW 1002 1 I64 c.1) [] O .sct ø (fun hc=>G3 O O) O ?_
     refine Do (BL a3) [195,196] O .sct ⟨Ua,Ua,ø⟩ (fun hc=>H1f (args:=[.agg [LS 1 (E1) ((List.replicate k ([]:List Int)).set a0.toNat c.1),I64 6],E1 c.1]) O (Yp.down F (Gh.mk ((List.replicate k ([]:List Int)).set a0.toNat c.1) 6) c.1 a3 (H6 hc h1)) H4c ⟨.aggL (cs:=[.vec 1006 0 1 ((List.replicate k ([]:List Int)).length),I64 6]) (ds:=[LS 1 (E1) ((List.replicate k ([]:List Int)).set a0.toNat c.1),I64 6]) ⟨.vec O,.data O O,ø⟩,.data O O,ø⟩ O) O ?_
     refine Do (BL (!a3)) [197] O .sct ⟨Ua,ø⟩ (fun hc=>Y4 (b:=a3) O O) O ?_
     refine Dq (BL (((decide (w < 5))||(decide (g≠4)))&&(!a3))) (Yy O O O O) O ?_
     refine Dq (BL (((decide (w < 5))||(decide (g≠4)))&&(!a3))) (G3 O O) O ?_
     refine Do (I64 g) [] O .scf ø (fun hc=>G3 O O) O ?_
     refine Do (BL (decide (g < 4))) [201] O .scf ⟨Ua,ø⟩ (fun hc=>J2 O O O) O ?_
     refine Do (BL (decide (g < 4))) [202] O .scf ⟨Ua,ø⟩ (fun hc=>G3 O O) O ?_
     refine Do (.agg [.vec 1006 0 1 ((List.replicate k ([]:List Int)).length),I64 6]) [] O .optt ø (fun hc=>Jc Hf O O O O) O ?_
     refine Do (OW 1002 1 I64 c.1) [] O .optt ø (fun hc=>G3 O O) O ?_
     refine Do (E1 (c.1.take c0)) [205] O .optt ⟨Ua,ø⟩ (fun hc=>G43 (f:=I64) (xs:=c.1) O O O G8 (H8 (H6 hc h2))) O ?_
     refine Do (BL a5) [204,206] O .optt ⟨Ua,Ua,ø⟩ (fun hc=>H1f (args:=[.agg [LS 1 (E1) ((List.replicate k ([]:List Int)).set a0.toNat c.1),I64 6],E1 (c.1.take c0)]) O (Yp.down F (Gh.mk ((List.replicate k ([]:List Int)).set a0.toNat c.1) 6) (c.1.take c0) a5 (H6 hc h3)) H4c ⟨.aggL (cs:=[.vec 1006 0 1 ((List.replicate k ([]:List Int)).length),I64 6]) (ds:=[LS 1 (E1) ((List.replicate k ([]:List Int)).set a0.toNat c.1),I64 6]) ⟨.vec O,.data O O,ø⟩,.data O O,ø⟩ O) O ?_
     refine Do (BL (!a5)) [207] O .optt ⟨Ua,ø⟩ (fun hc=>Y4 (b:=a5) O O) O ?_
     refine Dg (.opt (!(((decide (w < 5))||(decide (g≠4)))&&(!a3))) (BL ((decide (g < 4))&&(!a5)))) (H9 [(203,BL (decide (g < 4))),(208,_)] O O O .scf ⟨.all id,.part,ø⟩ (fun hc=>Yy O O O O) O) O ?_
     refine Dq (BL ((((decide (w < 5))||(decide (g≠4)))&&(!a3))||((decide (g < 4))&&(!a5)))) (G17 O O O O) O ?_
     refine Dq (BL ((((decide (w < 5))||(decide (g≠4)))&&(!a3))||((decide (g < 4))&&(!a5)))) (G3 O O) O ?_
     refine Do (.agg [.vec 1006 0 1 ((List.replicate k ([]:List Int)).length),I64 6]) [] O .scf ø (fun hc=>Jc Hf O O O O) O ?_
     refine Do (OW 1002 1 I64 c.1) [] O .scf ø (fun hc=>G3 O O) O ?_
     refine Do (BL b1) [212,213] O .scf ⟨Ua,Ua,ø⟩ (fun hc=>H1f (args:=[.agg [LS 1 (E1) ((List.replicate k ([]:List Int)).set a0.toNat c.1),I64 6],E1 c.1]) O (Zd.down F (Gh.mk ((List.replicate k ([]:List Int)).set a0.toNat c.1) 6) c.1 b1 (H6 hc h4)) Hc6 ⟨.aggL (cs:=[.vec 1006 0 1 ((List.replicate k ([]:List Int)).length),I64 6]) (ds:=[LS 1 (E1) ((List.replicate k ([]:List Int)).set a0.toNat c.1),I64 6]) ⟨.vec O,.data O O,ø⟩,.data O O,ø⟩ O) O ?_
     refine Do (BL (!b1)) [214] O .scf ⟨Ua,ø⟩ (fun hc=>Y4 (b:=b1) O O) O ?_
     refine Dq (BL (((((decide (w < 5))||(decide (g≠4)))&&(!a3))||((decide (g < 4))&&(!a5)))||(!b1))) (G17 O O O O) O ?_
     refine Dnil ?_
     refine h0 ?_
     refine JCc O h ?_ ?_<;>intro h hb
     ·
      refine Jr fun h5=>?_
      refine JLm (BL false) O ?_
      refine G6 (h5 ?_)
      refine H0 ?_
      exact fin1 BL h
     ·
      refine Gk ?_
      refine g5 ?_
      refine G1 ?_
      refine JLm (I64 g) O ?_
      obtain⟨c1,h6,h⟩:=Je h
      refine JLg (I64 c1) (Hz h6 O O O) ?_
      refine JLm (I64 c1) O ?_
      refine G6 ?_
      exact o5 _ _ o6 c1 (app1 g2 h) (by omega) ⟨(.sm O O),⟨⟨_,rfl,.same⟩,ø⟩,rfl⟩
    ·
     refine Hd ?_
     refine e7 ?_
     refine G1 ?_
     refine JLm (I64 w) O ?_
     obtain⟨c2,h7,h⟩:=Je h
     refine JLg (I64 c2) (Hz h7 O O O) ?_
     refine JLm (I64 c2) O ?_
     refine G6 ?_
     exact q7 _ _ q8 c2 (app1 n8 h) (by omega) ⟨⟨.same rfl,ø⟩,ø,rfl⟩
  ·
   refine Hd ?_
   refine n4 ?_
   refine Jr fun h8=>?_
   obtain⟨c3,h9,h⟩:=Gd h
   refine JLg (BL c3) (Gu O (Gee F c3 h9) Q8c ø) ?_
   refine JLm (BL c3) O ?_
   refine G6 (h8 ?_)
   refine H0 ?_
   exact fin1 BL h
end
end Go.Proofs.YtokjlondbjdlfaaGreat
