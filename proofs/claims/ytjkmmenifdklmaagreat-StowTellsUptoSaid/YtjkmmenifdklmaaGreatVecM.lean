/-
 Slices of typed elements that the call may write in place.
-/
import Derived.Test.YtjkmmenifdklmaaGreatLend
set_option linter.unusedVariables false
set_option linter.unusedSimpArgs false
namespace Go.Proofs.YtjkmmenifdklmaaGreat
open Go.RowKit

section ops
variable {P:Program} {N:G33} {Q:Post} {o:Oper} {ops:Array Oper} {rest:List Oper} {l:Fr} {L L':Loc} {u:AV} {α:Type}

theorem H1a {s x:Operand} {T E k by_ i ver ver1 n kx:Nat} {f:α→AV} {xs ys:List α} (ho:o.op=.call { callee:=.builtin .append,args:=#[s,x],argTypes:=#[T,T] }) (hs:ev l s=.vec i ver k n) (hi:lk L i=some (.vec E k ver (xs.map f))) (hx:Q2 (ev l x)=some (kx,ys.map f))
  (hT:sliceB P T E k=true) (hE:Yp P E k by_=true) (hb:decide ((xs.length+ys.length)*by_≤140737488355328∧xs.length+ys.length≤maxLen)=true) (hcell:∀ y,(f y).flatOk=true) (hk:kx=k∨ys=[]) (hv:ver < ver1) :
  H1 P o l L (Is (.vec i ver1 k (xs++ys).length) ((i,.vec E k ver1 ((xs++ys).map f))::L)):=by
 have hb':=of_decide_eq_true hb
 have h:=A_vappend (xs:=xs.map f) (ys:=ys.map f) ho hs hi hx hT hE (by simpa using hb'.1) (by simpa using hb'.2) (fun y hy=>by
  obtain⟨z,_,rfl⟩:=List.mem_map.1 hy
  exact hcell z) (hk.imp id (fun e=>by rw [e]; rfl)) hv
 simpa only [List.map_append,List.length_append,List.length_map] using h
theorem J1c {x ix:Operand} {T E k i ver n m:Nat} {kd:IntKind} {z:Int} {f:α→AV} {xs:List α} {y:α} (ho:o.op=.indexAddr T x ix) (hx:ev l x=.vec i ver k n) (hix:ev l ix=.sc (.int kd z)) (hi:lk L i=some (.vec E k ver (xs.map f))) (hT:sliceB P T E k=true) (hy:xs[m]? = some y) (hz:z=(m:Int)) :
  H1 P o l L (Is (.vptr i ver m 0) L):=A_vidx ho hx hix hi hT (by rw [List.length_map]; exact(List.getElem?_eq_some_iff.1 hy).1) hz
theorem Jcd {x:Operand} {T i ver m fo t k:Nat} {f:α→AV} {xs:List α} {y:α} (hT:Rt P T=true) (ho:o.op=.load T x) (hx:ev l x=.vptr i ver m fo) (hi:lk L i=some (.vec t k ver (xs.map f))) (hy:xs[m]? = some y) (hu:(f y).cells[fo]? = some u) (hfk:Nat.blt fo k=true):H1 P o l L (Is u L):=
 A_vload hT ho hx hi (mapq hy) hu (by simpa [Nat.blt_eq] using hfk)
theorem putN_whole {us cs:List AV} (h:us.length=cs.length):Hc5 0 us cs=some us:=by
 have key:∀ (us cs:List AV),us.length=cs.length→Hc5 0 us cs=some us:=by
  intro us
  induction us with
  | nil=>intro cs h; cases cs with
   | nil=>rfl
   | cons c r=>simp at h
  | cons a r ih=>intro cs h; cases cs with
   | nil=>simp at h
   | cons c s=>simp [Hc5,ih s (by simpa using h)]
 exact key us cs h
theorem Je1 {x y:Operand} {T i ver m t k:Nat} {f:α→AV} {xs:List α} {z:α} (hT:Yj P T k=true) (ho:o.op=.store T x y) (hu:ev l y=f z) (hx:ev l x=.vptr i ver m 0) (hi:lk L i=some (.vec t k ver (xs.map f))) (hm:m < xs.length)
  (hc:(f z).flatOk=true) (hd:(f z).isData=true) (hk:(f z).cells.length=k) (hpos:Nat.blt 0 k=true) :
  H1 P o l L (Is .junk ((i,.vec t k ver ((xs.set m z).map f))::L)):=by
 intro a w β K Q hsat hf hK
 obtain⟨o1,_⟩:=hsat.obj i _ hi
 have he:(xs.map f)[m]? = some (f xs[m]):=by simp [hm]
 have hel:(f xs[m]).cells.length=k:=o1 _ (List.mem_of_getElem? he)
 have h:=Q20 (P:=P) (e:=f xs[m]) (z:=f z) (ds:=(f z).cells) hT ho hu hx hi he hc hd (putN_whole (hk.trans hel.symm)) rfl hk hpos
 rw [← List.map_set] at h
 exact h a w β K Q hsat hf hK
theorem A_vmakeM (i:Nat) {x y:Operand} {T E k by_ n:Nat} {kd kd':IntKind} {nx ny:Int} {f:α→AV} (z:α) (zs:List Value) (ho:o.op=.makeSlice T x y) (hx:ev l x=.sc (.int kd nx)) (hy:ev l y=.sc (.int kd' ny)) (hi:lk L i=none)
  (hT:sliceB P T E k=true) (hE:Yp P E k by_=true) (hz:(P.info? E).bind (fun i=>i.zero.map Value.cells)=some zs.toArray) (hn:nx=(n:Int)) (hm:ny=(n:Int)) (hb:decide (by_*n≤281474976710656∧n≤maxLen∧n*k≤16777216)=true)
  (hzz:ZOk (f z).cells zs) (hzk:(f z).cells.length=k) :
  H1 P o l L (Is (.vec i 0 k (List.replicate n z).length) ((i,.vec E k 0 ((List.replicate n z).map f))::L)):=by
 have h:=A_vmake (P:=P) (T:=T) (E:=E) i zs ho hx hy hi hT hE hz hn hm hb (f z) (fun w S j a b ha hb'=>by
  have:=ZOk.get (w:=w) (β:=⟨fun _=>none,fun b i=>¬ S b i⟩) (L:=[]) hzz j a b ha hb'
  refine(this.data_of_nil).mono fun b i hs=>⟨Classical.byContradiction fun hn=>hs.seen hn,rfl⟩) hzk
 simpa only [List.map_replicate,List.length_replicate] using h
def Gcd (z:Int):Option Nat:=bif decide (0≤z) then some z.toNat else none
theorem G4e {z:Int} {n:Nat} (h:Gcd z=some n):z=(n:Int):=by
 unfold Gcd at h
 cases hb:decide (0≤z) with
 | true=>rw [hb] at h; cases h; have:=of_decide_eq_true hb; omega
 | false=>rw [hb] at h; cases h
end ops
end Go.Proofs.YtjkmmenifdklmaaGreat
