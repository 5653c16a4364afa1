/-
 Slices of typed elements that the call may write in place.
-/
import Derived.Test.YtfkilljboodoaaaGreatLend
namespace Go.Proofs.YtfkilljboodoaaaGreat
open Go.RowKit

section ops
variable {P:Program} {N:G41} {Q:Post} {o:Oper} {ops:Array Oper} {rest:List Oper} {l:Fr} {L L':Loc} {u:AV} {α:Type}

theorem J96 {s x:Operand} {T E k by_ i ver ver1 n kx:Nat} {f:α→AV} {xs ys:List α} (ho:o.op=.call { callee:=.builtin .append,args:=#[s,x],argTypes:=#[T,T] }) (hs:ev l s=.vec i ver k n) (hi:lk L i=some (.vec E k ver (xs.map f))) (hx:Qd (ev l x)=some (kx,ys.map f))
  (hT:sliceB P T E k=true) (hE:Zn P E k by_=true) (hb:decide ((xs.length+ys.length)*by_≤140737488355328∧xs.length+ys.length≤maxLen)=true) (hcell:∀ y,(f y).flatOk=true) (hk:kx=k∨ys=[]) (hv:ver < ver1) :
  H4 P o l L (Is (.vec i ver1 k (xs++ys).length) ((i,.vec E k ver1 ((xs++ys).map f))::L)):=by
 have hb':=of_decide_eq_true hb
 have h:=A_vappend (xs:=xs.map f) (ys:=ys.map f) ho hs hi hx hT hE (by simpa using hb'.1) (by simpa using hb'.2) (fun y hy=>by
  obtain⟨z,_,rfl⟩:=List.mem_map.1 hy
  exact hcell z) (hk.imp id (fun e=>by rw [e]; rfl)) hv
 simpa only [List.map_append,List.length_append,List.length_map] using h
theorem Gdd {x ix:Operand} {T E k i ver n m:Nat} {kd:IntKind} {z:Int} {f:α→AV} {xs:List α} {y:α} (ho:o.op=.indexAddr T x ix) (hx:ev l x=.vec i ver k n) (hix:ev l ix=.sc (.int kd z)) (hi:lk L i=some (.vec E k ver (xs.map f))) (hT:sliceB P T E k=true) (hy:xs[m]? = some y) (hz:z=(m:Int)) :
  H4 P o l L (Is (.vptr i ver m 0) L):=A_vidx ho hx hix hi hT (by rw [List.length_map]; exact(List.getElem?_eq_some_iff.1 hy).1) hz
theorem Gfd {x:Operand} {T i ver m fo t k:Nat} {f:α→AV} {xs:List α} {y:α} (hT:Ro P T=true) (ho:o.op=.load T x) (hx:ev l x=.vptr i ver m fo) (hi:lk L i=some (.vec t k ver (xs.map f))) (hy:xs[m]? = some y) (hu:(f y).cells[fo]? = some u) (hfk:Nat.blt fo k=true):H4 P o l L (Is u L):=
 A_vload hT ho hx hi (mapq hy) hu (by simpa [Nat.blt_eq] using hfk)
theorem putN_whole {us cs:List AV} (h:us.length=cs.length):Hac 0 us cs=some us:=by
 have key:∀ (us cs:List AV),us.length=cs.length→Hac 0 us cs=some us:=by
  intro us
  induction us with
  | nil=>intro cs h; cases cs with
   | nil=>rfl
   | cons c r=>simp at h
  | cons a r ih=>intro cs h; cases cs with
   | nil=>simp at h
   | cons c s=>simp [Hac,ih s (by simpa using h)]
 exact key us cs h
theorem A_vstoreM {x y:Operand} {T i ver m t k:Nat} {f:α→AV} {xs:List α} {z:α} (hT:Rv P T k=true) (ho:o.op=.store T x y) (hu:ev l y=f z) (hx:ev l x=.vptr i ver m 0) (hi:lk L i=some (.vec t k ver (xs.map f))) (hm:m < xs.length)
  (hc:(f z).flatOk=true) (hd:(f z).isData=true) (hk:(f z).cells.length=k) (hpos:Nat.blt 0 k=true) :
  H4 P o l L (Is .junk ((i,.vec t k ver ((xs.set m z).map f))::L)):=by
 intro a w β K Q hsat hf hK
 obtain⟨o1,_⟩:=hsat.obj i _ hi
 have he:(xs.map f)[m]? = some (f xs[m]):=by simp [hm]
 have hel:(f xs[m]).cells.length=k:=o1 _ (List.mem_of_getElem? he)
 have h:=Je7 (P:=P) (e:=f xs[m]) (z:=f z) (ds:=(f z).cells) hT ho hu hx hi he hc hd (putN_whole (hk.trans hel.symm)) rfl hk hpos
 rw [← List.map_set] at h
 exact h a w β K Q hsat hf hK
def H1a (z:Int):Option Nat:=bif decide (0≤z) then some z.toNat else none
theorem G82 {z:Int} {n:Nat} (h:H1a z=some n):z=(n:Int):=by
 unfold H1a at h
 cases hb:decide (0≤z) with
 | true=>rw [hb] at h; cases h; have:=of_decide_eq_true hb; omega
 | false=>rw [hb] at h; cases h
end ops
end Go.Proofs.YtfkilljboodoaaaGreat
