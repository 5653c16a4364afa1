/- BoundFinds: -/
import Derived.Test.YthkihfoleenlmaaGreatFinB
import Derived.Test.YthkihfoleenlmaaGreatXQ
set_option maxRecDepth 100000
set_option linter.unusedVariables false
namespace Go.Proofs.YthkihfoleenlmaaGreat
open Go.RowKit

theorem H66:Zq 7000=some true:=by kernel_rfl
theorem Jac:∀ n:Nat,n≤20→Qq 7000 [(-1)] (((2*n:Nat):Int)+1)=some (List.replicate (2*n+1) (-1)):=fun n hn=>by
 have h:(List.range 21).all (fun n=>decide (Qq 7000 [(-1)] (((2*n:Nat):Int)+1)=some (List.replicate (2*n+1) (-1))))=true:=by kernel_rfl
 exact Np (List.all_eq_true.1 h n (List.mem_range.2 (by omega)))
theorem H1d {s:H2} (h1:s.Columns≠[]):Wp (aR s) (fun T=>∃ c∈s.Columns,T=c.Tiers):=by
 unfold aR
 refine Rv (fun pre T=>pre≠[]→∃ c∈pre,T=c.Tiers) (fun h=>(h rfl).elim) (fun pre y post T nx e hI h0=>?_) (fun T hI=>H4 (hI h1))
 refine lW (fun j=>∃ c∈pre++[y],j=c.Tiers) (fun K hK=>J8 (fun h=>hK _ ⟨y,by simp,rfl⟩) (fun h=>?_)) (fun j hj=>h0 _ (fun _=>hj))
 simp only [Pg,decide_eq_false_iff_not] at h
 have h2:pre≠[]:=fun e0=>by rw [e0] at h; exact h.1 rfl
 obtain⟨c0,g2,g3⟩:=hI h2
 exact hK _ ⟨c0,Pa.2 (.inl g2),g3⟩
structure FewF (s:H2) (bx:List Box):Prop where
 cols:s.Columns.length≤20
 bxs12:bx.length≤12
theorem Jb8 (s:H2) (bx:List Box) (families:List (List G5)):Wp (aQ s bx families) (fun r=>r=true→FewF s bx):=by
 unfold aQ
 refine J8 (fun h=>H4 (fun h=>Bool.noConfusion h)) (fun h=>?_)
 simp only [Pg,decide_eq_false_iff_not] at h
 obtain⟨⟨⟨h1,h2⟩,h3⟩,h4⟩:=h
 refine Rv (fun pre _=>True) trivial (fun pre y post u nx e hI h0=>J8 (fun h=>H4 (fun h=>Bool.noConfusion h)) (fun h=>h0 _ trivial)) (fun u hI=>?_)
 refine Rv (fun pre _=>True) trivial (fun pre y post u nx e hI h0=>J8 (fun h=>H4 (fun h=>Bool.noConfusion h)) (fun h=>h0 _ trivial)) (fun u hI=>?_)
 exact Rv (fun pre _=>True) trivial (fun pre y post u nx e hI h0=>J8 (fun h=>H4 (fun h=>Bool.noConfusion h)) (fun h=>h0 _ trivial)) (fun u h5=>H4 (fun _=>⟨by omega,by omega⟩))
theorem QC (a:List G5):Rm a a=some true:=by
 unfold Rm
 exact pM (fun i y nx h=>by rw [cO h]; simp)
theorem yP (a:List (List G5)):Y3 a a=some true:=by
 unfold Y3
 exact pM (fun i y nx h=>by rw [cO h,QC]; rfl)
theorem G39 {bv:List G5→Int} {N:Nat}:∀ (n:Nat) (cs:List G1) (fs:List (List G5)) (sm:Int),cs.length≤N→(∀ f∈fs,f.length≤N)→(QB bv n cs fs sm).1.length≤fs.length+n∧∀ f∈(QB bv n cs fs sm).1,f.length≤N
 | 0,cs,fs,sm,h1,h2=>⟨Ny,h2⟩
 | n+1,cs,fs,sm,h1,h2=>by
  rw [QB]
  split
  ·exact⟨Nat.le_add_right _ _,h2⟩
  ·have hp:((Zk bv cs).1.map (·.G5)).length≤N:=by
    rw [P9]
    rcases @sN bv (uG cs) ([],0) with e | ⟨e1,_,_⟩
    ·have:(Zk bv cs).1=[]:=congrArg Prod.fst e
     rw [this]; exact Nat.zero_le _
    ·change (Zk bv cs).1∈_ at e1
     obtain⟨k,_,ek⟩:=Pb.1 e1
     obtain⟨_,_,h3⟩:=@uI cs k
     rw [← ek]; omega
   obtain⟨a,b⟩:=G39 n (YM ((Zk bv cs).1.map (·.G5)) cs) (fs++[(Zk bv cs).1.map (·.G5)]) (sm+(Zk bv cs).2) (Nat.le_trans (Nk ..) h1) (fun f hf=>by
    rcases Pa.1 hf with hf | hf
    ·exact h2 f hf
    ·rw [Pc.1 hf]; exact hp)
   rw [P5,P6] at a
   exact⟨by omega,b⟩
theorem H90 {s:H2} {bx:List Box} (hs:vJ s) (hf:FewF s bx):∃ r,bI 7000 s bx=some r∧Y1 7000 s bx=some r∧r.1.length≤1000∧∀ f∈r.1,f.length≤1000000:=by
 have hb:=hf.bxs12
 have h3:=hf.cols
 obtain⟨r1,e1,h1⟩:=Gb6 (bx:=bx) hs.plugs hs.crows (by omega)
 obtain⟨r2,e2,h2⟩:=H24 (F:=7000) (bx:=bx) hs.plugs hs.crows (by omega)
 by_cases hR:YW s∧BxR bx
 ·rw [h1.2 hR] at e1
  rw [h2.2 hR] at e2
  have h4:s.Columns≠[]:=fun e=>by have:=hR.1.num; rw [e] at this; simp at this
  obtain⟨T,hT,c,hc,rfl⟩:=H1d h4
  have h7:=(hR.1.col c hc).place
  obtain⟨g0,hg⟩:=Gca (F:=7000) (bx:=bx) (by omega) (by omega)
  have h5:∀ l:List G5,∃ v,l.length≤12→fY 7000 c.Tiers (l.map (G10 bx)) (2*s.Columns.length) v:=fun l=>by
   by_cases hl:l.length≤12
   ·obtain⟨v,_,hv⟩:=G2b (F0:=7000) (T:=c.Tiers) (by omega) ⟨by omega,by omega⟩ (l:=l.map (GD bx)) (fun c hc=>by
     obtain⟨g,_,rfl⟩:=Pb.1 hc
     exact yJ hb g) (by rw [P9]; omega) l.length 0 7000 (2*s.Columns.length) (by rw [P9]; omega) (by omega) (by omega)
    rw [List.drop_zero,List.map_map] at hv
    exact⟨v,fun _=>hv⟩
   ·exact⟨0,fun h=>(hl h).elim⟩
  obtain⟨bv,h6⟩:=Classical.axiomOfChoice h5
  have h0:yO 7000 7000 s bx c.Tiers g0 bv:=⟨hT,⟨by omega,by omega⟩,h3,hb,hg,h6,Jac _ h3⟩
  have h8:=hg.len
  obtain⟨a,b⟩:=G39 (bv:=bv) (N:=12) (g0.length+1) g0 [] 0 (by omega) (fun f h=>(Nx h).elim)
  exact⟨_,H83 h0 (by omega) e1,Hb3 h0 (by omega) e2,by simp only [List.length_nil] at a; simp only; omega,fun f h=>Nat.le_trans (b f h) (by decide)⟩
 ·have f1:r1=false:=by
   cases r1 with
   | false=>rfl
   | true=>exact(hR (h1.1 rfl)).elim
  have f2:r2=false:=by
   cases r2 with
   | false=>rfl
   | true=>exact(hR (h2.1 rfl)).elim
  subst f1 f2
  refine⟨([],0,2),gA ?_,gA ?_,Nat.zero_le _,fun f h=>(Nx h).elim⟩
  ·unfold bI
   exact Hh e1 (J8 (fun _=>H4 rfl) (fun h=>by cases h))
  ·unfold Y1
   exact Hh e2 (J8 (fun _=>H4 rfl) (fun h=>by cases h))
theorem Hc4 (s:H2) (bx:List Box) (hs:vJ s) (l1:bx.length≤1048576):Zf 7000 s bx=some true:=by
 refine gA ?_
 unfold Zf
 refine Jp (wp_mono (Jb8 s bx []) (fun r4 h4=>J8 (fun _=>Hh H66 (H4 rfl)) (fun h=>?_)))
 have hf:=h4 (by simpa using h)
 refine Hh (Gd7 hs) (Hh (G6a l1) ?_)
 rw [Hb6]
 obtain⟨r,e1,e2,h0,h1⟩:=H90 hs hf
 refine Hh e1 (Hh e2 ?_)
 have ha:bT r.1=some true:=by
  unfold bT need
  rw [Nr h0,Bool.true_and,List.all_eq_true.2 (fun m hm=>Nr (h1 m hm))]
  rfl
 simp only [yP,sX,cond_true,decide_true,Bool.and_self,Gda hs,G6d l1,ha,H66]
 exact H4 rfl
end Go.Proofs.YthkihfoleenlmaaGreat
