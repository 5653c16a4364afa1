/-
 What slices.Backward yields: each place and what stands there,from the end.
-/
import Derived.Test.YtidpfkmbfgihlaaGreatXJ
set_option maxRecDepth 100000
namespace Go.Proofs.YtidpfkmbfgihlaaGreat
open Go.RowKit

def H2a (n:Nat):List Move→List (Int×Move)
 | []=>[]
 | x::r=>H2a (n+1) r++[((n:Int),x)]
theorem Gab:∀ (n:Nat) (l:List Move),(H2a n l).length=l.length
 | _,[]=>rfl
 | n,x::r=>by rw [H2a,List.length_append,Gab (n+1) r]; rfl
theorem R8a:∀ (n:Nat) (l:List Move) (j:Nat) (x:Move),l[j]? = some x→(H2a n l)[l.length - 1 - j]? = some (((n+j:Nat):Int),x)
 | n,[],j,x,h=>by simp at h
 | n,y::r,0,x,h=>by
  simp at h; subst h
  rw [H2a,List.getElem?_append_right (by rw [Gab]; simp)]
  simp [Gab]
 | n,y::r,j+1,x,h=>by
  have h':r[j]? = some x:=by simpa using h
  have hj:=(List.getElem?_eq_some_iff.1 h').1
  have:=R8a (n+1) r j x h'
  rw [H2a,List.getElem?_append_left (by rw [Gab,List.length_cons]; omega)]
  rw [show (y::r).length - 1 - (j+1)=r.length - 1 - j by rw [List.length_cons]; omega,this]
  congr 2
  omega
def Y5 (F:Nat) (p1:List Move):Option (List (Int×Move)):=
 bif decide (p1.length < F∧p1.length≤9223372036854775807) then some (H2a 0 p1) else none
theorem Y96 {β:Type} {z:Int} {k:Int→Option β} (h : -9223372036854775808≤z∧z≤9223372036854775807):chk z k=k z:=by
 unfold chk Qf6
 rw [decide_eq_true h.1,decide_eq_true h.2,Bool.and_self,cond_true]
theorem R02 (p:List Move) (hl:p.length≤9223372036854775807):∀ (m:Nat) (F:Nat),m≤p.length→m < F →
  loop (fun nx16 (s16:Int×Nat)=>
  bif decide (0≤s16.1) then
  (Yy p s16.1 fun y21=>
   need (decide ((H2a 0 p)[s16.2]? = some (s16.1,y21))) <|
   chk (s16.1 - 1) fun v24=>
   nx16 (v24,(s16.2+1)))
  else
  (need (decide (s16.2=(H2a 0 p).length)) (some ()))) F ((m:Int) - 1,p.length - m)=some ()
 | 0,F+1,hm,hF=>by
  rw [loop]
  have h1:decide ((0:Int)≤((0:Nat):Int) - 1)=false:=by decide
  simp only [h1,cond_false]
  rw [Gab,Nat.sub_zero]
  unfold need
  simp
 | m+1,F+1,hm,hF=>by
  have ih:=R02 p hl m F (by omega) (by omega)
  rw [loop]
  have h1:decide ((0:Int)≤((m+1:Nat):Int) - 1)=true:=decide_eq_true (by omega)
  simp only [h1,cond_true]
  have hz:((m+1:Nat):Int) - 1=(m:Int):=by omega
  have hml:m < p.length:=by omega
  have hg:p[m]? = some p[m]:=by simp [hml]
  have hb:=R8a 0 p m p[m] hg
  rw [hz]
  have hgi:∀ k:Move→Option Unit,Yy p (m:Int) k=k p[m]:=fun k=>by
   unfold Yy
   have:decide (0≤(m:Int))=true:=decide_eq_true (by omega)
   simp [hml,bnd]
  rw [hgi,show p.length - (m+1)=p.length - 1 - m by omega,hb,Nat.zero_add]
  unfold need
  rw [decide_eq_true rfl,cond_true,Y96 ⟨by omega,by omega⟩,show p.length - 1 - m+1=p.length - m by omega]
  exact ih
 | 0,0,_,h=>by omega
 | m+1,0,_,h=>by omega
def H2c:=PLift.up (H36 Y5 (fun F p r h=>by
 unfold Y5 at h
 cases hd:decide (p.length < F∧p.length≤9223372036854775807) with
 | false=>rw [hd] at h; cases h
 | true=>
  rw [hd] at h; cases h
  obtain⟨h1,h2⟩:=of_decide_eq_true hd
  unfold Z9
  rw [Y96 ⟨by omega,by omega⟩]
  have:=R02 p h2 p.length F (Nat.le_refl _) h1
  rw [Nat.sub_self] at this
  exact this))
end Go.Proofs.YtidpfkmbfgihlaaGreat
