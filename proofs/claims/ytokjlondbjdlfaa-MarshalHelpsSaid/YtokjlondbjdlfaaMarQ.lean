/-
 Made yards,ordered boxes. Least; Least of program and reference; How many yards there are of five boxes in four stacks: Least:
-/
import Derived.Test.YtokjlondbjdlfaaSpecM
import Derived.Test.YtokjlondbjdlfaaXI
import Derived.Test.YtokjlondbjdlfaaMarP
import Derived.Test.YtokjlondbjdlfaaMarM
set_option maxRecDepth 100000
set_option linter.unusedVariables false
namespace Go.Proofs.Ytokjlondbjdlfaa
open Go.RowKit Go.Sort Go.Shelf

theorem Jac {H:Nat} {rows:List (List Int)} (h:∀ s∈rows,∀ b∈s,1≤b∧b≤20) {v i:Int} (hi:0≤i∧i < 20):∀ (f k:Nat),∀ s∈Gb4 H rows v i f k,∀ b∈s,1≤b∧b≤20
 | 0,_,s,hs=>h s hs
 | f+1,k,s,hs=>by
  rw [Gb4] at hs
  split at hs
  ·rcases List.mem_or_eq_of_mem_set hs with hs | rfl
   ·exact h s hs
   ·intro b hb
    rcases Kp.1 hb with hb | hb
    ·rw [List.getD_eq_getElem?_getD] at hb
     cases hq:rows[((v+(k:Int)).tmod (rows.length:Int)).toNat]? with
     | none=>rw [hq] at hb; simp at hb
     | some t=>rw [hq] at hb; exact h t (Ka hq) b hb
    ·rw [Kr] at hb; omega
  ·exact Jac h hi f (k+1) s hs
theorem Q15 {H:Nat}:∀ (l:List Int) (i:Nat) (rows:List (List Int)),(∀ s∈rows,s.length≤H)→(∀ s∈rows,∀ b∈s,1≤b∧b≤20)→(H12 H l i rows).length=rows.length∧(∀ s∈H12 H l i rows,s.length≤H)∧∀ s∈H12 H l i rows,∀ b∈s,1≤b∧b≤20
 | [],i,rows,h1,h2=>⟨rfl,h1,h2⟩
 | v::l,i,rows,h1,h2=>by
  rw [H12]
  split
  ·rename_i hi
   have h3:=Q15 l (i+1) (Gb4 H rows v (i:Int) rows.length 0) (Hf8 h1 v _ _ 0) (Jac h2 (by omega) _ 0)
   exact⟨h3.1.trans (Hf9 H rows v _ _ 0),h3.2⟩
  ·exact⟨rfl,h1,h2⟩
structure Je1 (y:Gs):Prop where
 low:1≤y.Height
 high:y.Height≤6
 some_:1≤y.Stacks.length
 most:y.Stacks.length≤6
 fit:∀ s∈y.Stacks,(s.length:Int)≤y.Height
 ids:∀ b∈y.Stacks.flatten,1≤b∧b≤20
theorem Qfe {stacks height:Int} {l:List Int} (hs:0≤stacks∧stacks≤255) (hh:0≤height∧height≤255) (hl:∀ v∈l,0≤v∧v≤255):Wp (Qr stacks height l) Je1:=by
 unfold Qr
 refine Q2 ?_ (Hj ?_)
 ·rw [Km,List.all_eq_true]
  exact⟨Ew ⟨hs.1,hs.2,hh.1,hh.2⟩,fun v hv=>Ew (hl v hv)⟩
 ·have e1:stacks.tmod 6=stacks % 6:=Int.tmod_eq_emod_of_nonneg hs.1
  have e2:height.tmod 6=height % 6:=Int.tmod_eq_emod_of_nonneg hh.1
  rw [e1,e2]
  obtain⟨h1,h2,h3⟩:=Q15 (H:=1+(height % 6).toNat) l 0 (List.replicate (1+(stacks % 6).toNat) []) (fun s hs=>by rw [List.eq_of_mem_replicate hs]; simp) (fun s hs=>by rw [List.eq_of_mem_replicate hs]; simp)
  rw [List.length_replicate] at h1
  refine⟨by dsimp only; omega,by dsimp only; omega,by dsimp only; omega,by dsimp only; omega,fun s hs=>by have:=h2 s hs; dsimp only; omega,fun b hb=>?_⟩
  obtain⟨s,h0,h4⟩:=List.mem_flatten.1 hb
  exact h3 s h0 b h4
theorem Je1.len {y:Gs} (h:Je1 y):y.Stacks.flatten.length≤36:=by
 have:=H5b (ss:=y.Stacks) (k:=6) (fun s hs=>by have:=h.fit s hs; have:=h.high; omega)
 have:=h.most
 omega
open Go.RowKit

/-! ### The first yard aQ bytes -/
section
variable {boxes order:List Int} {n:Nat} {H:Int}
end


def pc:List Int→List Int→Nat
 | _,[]=>0
 | bs,p::ps=>bs.idxOf p+bs.length*pc (bs.erase p) ps

theorem Hf3 {H:Int}:∀ {p:List G5} {ss t:List (List Int)},Jz ss H→run H.toNat ss p=some t→Jz t H∧(∀ b,b∈t.flatten ↔ b∈ss.flatten)∧t.length=ss.length
 | [],ss,t,h,hr=>by cases hr; exact⟨h,fun _=>Iff.rfl,rfl⟩
 | m::p,ss,t,h,hr=>by
  rw [run] at hr
  split at hr
  ·rename_i h0
   obtain⟨h1,h2,h3⟩:=Hf3 (G53 h h0) hr
   rcases G44 ss H.toNat m with h' | ⟨f,t',a,b,x,c⟩
   ·exact(h' h0).elim
   ·have hp:=c.perm
    rw [c.eq] at h2 h3
    exact⟨h1,fun v=>(h2 v).trans hp.mem_iff,by rw [h3]; simp⟩
  ·cases hr
theorem Hcb {h:Nat}:∀ (p:List G5) (ss:List (List Int)) (i:Nat),run h ss p=if (Rs h ss i p).2.2=0 then some (Rs h ss i p).1 else none
 | [],ss,i=>rfl
 | m::p,ss,i=>by
  rw [run,Rs]
  by_cases h0:(Hq ss h m).2=0
  ·rw [if_pos h0,if_pos h0]; exact Hcb p _ (i+1)
  ·rw [if_neg h0,if_neg h0,if_neg h0]
end Go.Proofs.Ytokjlondbjdlfaa
