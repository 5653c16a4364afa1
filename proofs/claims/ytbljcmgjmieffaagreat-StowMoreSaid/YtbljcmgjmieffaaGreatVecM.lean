/-
 Slices of typed elements that the call may write in place.
-/
import Derived.Test.YtbljcmgjmieffaaGreatLend
set_option linter.unusedVariables false
set_option linter.unusedSimpArgs false
set_option linter.unnecessarySimpa false
namespace Go.Proofs.YtbljcmgjmieffaaGreat
open Go.RowKit

section ops
variable {P:Program} {N:Yg} {Q:Post} {o:Oper} {ops:Array Oper} {rest:List Oper} {l:Fr} {L L':Loc} {u:AV} {α:Type}

theorem G40 {s x:Operand} {T E k by_ i ver ver1 n kx:Nat} {f:α→AV} {xs ys:List α} (ho:o.op=.call { callee:=.builtin .append,args:=#[s,x],argTypes:=#[T,T] }) (hs:ev l s=.vec i ver k n) (hi:lk L i=some (.vec E k ver (xs.map f))) (hx:J1 (ev l x)=some (kx,ys.map f))
  (hT:sliceB P T E k=true) (hE:Qy P E k by_=true) (hb:decide ((xs.length+ys.length)*by_≤140737488355328∧xs.length+ys.length≤maxLen)=true) (hcell:∀ y,(f y).flatOk=true) (hk:kx=k∨ys=[]) (hv:ver < ver1) :
  Gn P o l L (Is (.vec i ver1 k (xs++ys).length) ((i,.vec E k ver1 ((xs++ys).map f))::L)):=by
 have hb':=of_decide_eq_true hb
 have h:=A_vappend (xs:=xs.map f) (ys:=ys.map f) ho hs hi hx hT hE (by simpa using hb'.1) (by simpa using hb'.2) (fun y hy=>by
  obtain⟨z,_,rfl⟩:=List.mem_map.1 hy
  exact hcell z) (hk.imp id (fun e=>by rw [e]; rfl)) hv
 simpa only [List.map_append,List.length_append,List.length_map] using h
theorem A_vidxM {x ix:Operand} {T E k i ver n m:Nat} {kd:IntKind} {z:Int} {f:α→AV} {xs:List α} {y:α} (ho:o.op=.indexAddr T x ix) (hx:ev l x=.vec i ver k n) (hix:ev l ix=.sc (.int kd z)) (hi:lk L i=some (.vec E k ver (xs.map f))) (hT:sliceB P T E k=true) (hy:xs[m]? = some y) (hz:z=(m:Int)) :
  Gn P o l L (Is (.vptr i ver m 0) L):=A_vidx ho hx hix hi hT (by rw [List.length_map]; exact(List.getElem?_eq_some_iff.1 hy).1) hz
end ops
end Go.Proofs.YtbljcmgjmieffaaGreat
