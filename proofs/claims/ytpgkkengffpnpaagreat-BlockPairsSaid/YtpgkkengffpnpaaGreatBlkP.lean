/-
 The examples of the chapter. BlockPairs: the law's plain mathematics.
-/
import Derived.Test.YtpgkkengffpnpaaGreatXP
import Derived.Test.YtpgkkengffpnpaaGreatBlkA
set_option linter.unusedVariables false
set_option linter.unusedSimpArgs false
set_option linter.unnecessarySimpa false
set_option maxRecDepth 100000
namespace Go.Proofs.YtpgkkengffpnpaaGreat
open Go.RowKit
theorem awake22:Ji 60=some true:=by kernel_rfl
end Go.Proofs.YtpgkkengffpnpaaGreat
set_option linter.unusedSimpArgs false
set_option linter.unnecessarySimpa false
set_option maxRecDepth 100000
set_option linter.unusedVariables false
namespace Go.Proofs.YtpgkkengffpnpaaGreat
open Go.RowKit

theorem fin_yes {A:Bool} {m:Option Bool} (hA:A=true) (hm:m=some true):Wp (bnd (bif A then m else some default) fun r=>some (A&&r)) (·=true):=by
 subst hA hm
 exact⟨true,rfl,rfl⟩
theorem J19 {s:Gs} {boxes:List Ga} {l:List Stowed} {id:Int}:Gb9 s boxes l id≠[] ↔ ∃ x∈l,Zg boxes x.Ga < Zg boxes id∧J1b s l [x.Ga] id:=by
 constructor
 ·intro h
  obtain⟨b,hb⟩:=List.exists_mem_of_ne_nil _ h
  obtain⟨h1,_,h3,h4⟩:=J5f.1 hb
  obtain⟨x,hx,rfl⟩:=List.mem_map.1 h1
  exact⟨x,hx,h3,h4⟩
 ·rintro⟨x,hx,h1,h2⟩ h
  have:x.Ga∈Gb9 s boxes l id:=J5f.2 ⟨List.mem_map.2 ⟨x,hx,rfl⟩,fun e=>by rw [e] at h1; omega,h1,h2⟩
  rw [h] at this; cases this
theorem tally_pos {κ:Type} [DecidableEq κ] {m:H5 κ Int} {L:List κ} (h:H5.l m=tally L) {a:κ} (hp:0 < H5.get m a 0):a∈L:=by
 have:H5.get m a 0=(L.count a:Int):=by
  show (G17 (H5.l m) a).getD 0=_
  rw [h,H54]
 exact List.count_pos_iff.1 (by omega)
theorem len_pos {α:Type} {l:List α}:decide (0 < (l.length:Int))=true ↔ l≠[]:=by
 rw [decide_eq_true_eq]
 cases l with
 | nil=>simp
 | cons a r=>simp only [List.length_cons]; exact⟨fun _ h=>(List.cons_ne_nil _ _ h),fun _=>by omega⟩

theorem lawPairsF {F:Nat} (hF:40≤F) (hA:Ji F=some true) (l:List Gx) (covers:Int) (drops:List Gn) (hp:∀ p∈l,Hbd p) (hd:∀ x∈drops,H97 x) :
  Qr F l covers drops=some true:=by
 refine G23 ?_
 unfold Qr
 refine H8 (wp_mono (made_spec l covers drops hp hd (most:=10) (by omega)) (fun r3 h3=>?_))
 obtain⟨s,boxes,st⟩:=r3
 have hS:J79 s boxes st:=h3.sta
 have hlen:=hS.len
 have hsrt:=hS.right.sorted
 refine H8 (wp_mono (Blockers_spec hS hF) (fun r5 h5=>?_))
 obtain⟨b1,b2,b3⟩:=h5
 refine Hs (fun h=>(of_decide_eq_true h b1).elim) (fun _=>?_)
 refine Qc (fun pre t=>t.1=((pre.filter (fun x=>!(Gb9 s boxes st x.Ga).isEmpty)).length:Int)∧∃ L:List J3,H5.l t.2=tally L∧L.length≤pre.length*10∧∀ k∈L,Zg boxes k.e1 < Zg boxes k.e0) ⟨rfl,[],rfl,by simp,fun k hk=>(List.not_mem_nil hk).elim⟩ (fun pre y post t nx e hI hnx=>?_) (fun t hI=>?_)
 ·obtain⟨i1,L,i2,i3,i4⟩:=hI
  have hy:y∈st:=by show y∈(s,boxes,st).2.2; rw [e]; simp
  have hpl:pre.length < st.length:=by show _ < ((s,boxes,st).2.2).length; rw [e]; simp
  have hbl:=blkL_len (s:=s) (boxes:=boxes) (l:=st) y.Ga
  refine H6 (Blocked_spec hS hF hy) ?_
  simp only [ne_eq,decide_not,decide_true,Bool.not_true,Bool.not_false,cond_true,Bool.false_or]
  refine H6 (law_holds _ _) ?_
  have hiff:decide (0 < ((Gb9 s boxes st y.Ga).length:Int))=decide (y.Ga∈r5.1):=by
   rw [Bool.eq_iff_iff,len_pos,decide_eq_true_eq,J19,b3]
  rw [hiff]
  refine Hs (fun h=>by simp at h) (fun _=>?_)
  have hflt:(pre.filter (fun x=>!(Gb9 s boxes st x.Ga).isEmpty)).length≤pre.length:=List.length_filter_le _ _
  have hcnt:∀ j:Int,j=t.1+(if y.Ga∈r5.1 then 1 else 0)→j=(((pre++[y]).filter (fun x=>!(Gb9 s boxes st x.Ga).isEmpty)).length:Int):=fun j hj=>by
   rw [List.filter_append,List.length_append,hj,i1]
   have h2:(Gb9 s boxes st y.Ga).isEmpty=false ↔ y.Ga∈r5.1:=by
    rw [b3,← J19]
    cases Gb9 s boxes st y.Ga <;> simp
   by_cases hm:y.Ga∈r5.1
   ·rw [if_pos hm,List.filter_cons,if_pos (by rw [h2.2 hm]; rfl)]
    simp
   ·rw [if_neg hm,List.filter_cons,if_neg (fun hh=>hm (h2.1 (by simpa using hh)))]
    simp
  refine G84 (fun j=>j=t.1+(if y.Ga∈r5.1 then 1 else 0)) (fun K hK=>Hs (fun h=>Qp ⟨by omega,by omega⟩ (hK _ (by rw [if_pos (of_decide_eq_true h)]))) (fun h=>hK _ (by rw [if_neg (of_decide_eq_false h)]; omega))) (fun j hj=>?_)
  refine Qc (fun pr m=>∃ L2:List J3,H5.l m=tally L2∧L2.length≤pre.length*10+pr.length∧∀ k∈L2,Zg boxes k.e1 < Zg boxes k.e0) ⟨L,i2,by simpa using i3,i4⟩ (fun pr z po m nx2 e2 hJ hnx2=>?_) (fun m hJ=>?_)
  ·obtain⟨L2,j1,j2,j3⟩:=hJ
   have hz:z∈Gb9 s boxes st y.Ga:=by rw [e2]; simp
   obtain⟨_,_,hzd,_⟩:=J5f.1 hz
   have hprl:pr.length < (Gb9 s boxes st y.Ga).length:=by rw [e2]; simp
   refine H6 (J64 boxes z) (H6 (J64 boxes y.Ga) ?_)
   rw [decide_eq_false (show ¬ Zg boxes y.Ga≤Zg boxes z by omega)]
   simp only [Bool.not_false,Bool.true_and,Bool.false_or]
   have hprev:Wp (bif decide (0 < (pr.length:Int)) then G09 ((pr.length:Int) - 1) some else some 0) (fun v=>Wp (bif decide (0 < (pr.length:Int)) then Yy (Gb9 s boxes st y.Ga) v some else some default) (fun p=>(decide (0 < (pr.length:Int))&&decide (z≤p))=false)):=by
    by_cases hp0:0 < pr.length
    ·obtain⟨p,hp1,hp2,hp3⟩:=J18 e2 hp0
     rw [decide_eq_true (show 0 < (pr.length:Int) by omega)]
     simp only [cond_true,Bool.true_and]
     refine Qp ⟨by omega,by omega⟩ (Gj (Y6 (m:=pr.length - 1) (by omega) hp1 (Gj (decide_eq_false ?_))))
     have hso:=blkL_sorted (s:=s) (boxes:=boxes) hsrt y.Ga
     rw [e2] at hso
     have:=G79 hso p hp3
     omega
    ·rw [decide_eq_false (show ¬ 0 < (pr.length:Int) by omega)]
     exact Gj (Gj rfl)
   refine H8 (wp_mono hprev (fun v hv=>H8 (wp_mono hv (fun p hpz=>?_))))
   rw [hpz]
   simp only [Bool.not_false,cond_true,Bool.false_or]
   refine H8 (Gj (Hs (fun h=>?_) (fun _=>?_)))
   ·have:=j3 _ (tally_pos j1 (of_decide_eq_true h))
    have this:Zg boxes y.Ga < Zg boxes z:=this
    omega
   ·have hb:=get_b j1 ⟨y.Ga,z⟩
    refine H8 (Gj (Qp ⟨by omega,by omega⟩ (hnx2 _ ⟨L2++[⟨y.Ga,z⟩],put_l j1 _,?_,Yp j3 hzd⟩)))
    simp only [List.length_append,List.length_singleton]; omega
  ·obtain⟨L2,j1,j2,j3⟩:=hJ
   have j2:L2.length≤pre.length*10+(Gb9 s boxes st y.Ga).length:=j2
   refine hnx _ ⟨hcnt j hj,L2,j1,?_,j3⟩
   simp only [List.length_append,List.length_singleton]; omega
 ·have i1:t.1=((st.filter (fun x=>!(Gb9 s boxes st x.Ga).isEmpty)).length:Int):=hI.1
  have hr:r5.1=(st.filter (fun x=>!(Gb9 s boxes st x.Ga).isEmpty)).map (·.Ga):=by
   refine Hb9 b2 (List.pairwise_map.2 (hsrt.sublist List.filter_sublist)) (fun id=>?_)
   rw [b3,← J19]
   simp only [List.mem_map,List.mem_filter]
   constructor
   ·intro h
    have hin:id∈st.map (·.Ga):=by
     obtain⟨x,hx,_,hr⟩:=J19.1 h
     exact hr.Y5 (fun a ha=>by rw [List.mem_singleton] at ha; rw [ha]; exact List.mem_map.2 ⟨x,hx,rfl⟩)
    obtain⟨x,hx,rfl⟩:=List.mem_map.1 hin
    refine⟨x,⟨hx,?_⟩,rfl⟩
    cases hq:Gb9 s boxes st x.Ga with
    | nil=>exact(h hq).elim
    | cons a r=>rfl
   ·rintro⟨x,⟨_,h⟩,rfl⟩ hq
    rw [hq] at h; cases h
  refine fin_yes (decide_eq_true ?_) hA
  rw [i1,hr,List.length_map]
theorem lawPairs (l:List Gx) (covers:Int) (drops:List Gn) (hp:∀ p∈l,Hbd p) (hd:∀ x∈drops,H97 x) :
  Qr 60 l covers drops=some true:=lawPairsF (by omega) awake22 l covers drops hp hd
end Go.Proofs.YtpgkkengffpnpaaGreat
