/-
 The ground of all proofs here: abstract values,abstract frames and abstract local memory of one call,what they say of the model's values and world,and the judgement that a piece of code leads from one abstract state to others. What each operation does to an abstract state: moves,tests,sums,loads,stores,new variables. What operations do to an abstract state: new variables,stores,slices,calls. Guards,loops,what is forgotten on the way,the beginning and the end of a call,and calls.
-/
import Derived.WalkKit
import Derived.ProofKit
import Derived.OpenShut
import Derived.KernelRfl
import Derived.Laws.CopyRow
import Derived.Laws.OwnMore
import Derived.Laws.AppendOwnNone
import Derived.OrdersIn
import Derived.TacticsIn
import Derived.RangeFuncNested
import Derived.RangeFuncLeaves
set_option linter.unusedVariables false
namespace Go.Proofs.YthcpolfodgjekaaGreat
abbrev Kc:ByteArray:=ByteArray.empty
theorem Kd {p:Prop} [Decidable p]:decide p=true→p:=of_decide_eq_true
theorem Ke {p:Prop} [Decidable p]:decide p=false→¬p:=of_decide_eq_false
theorem Kf {p:Prop} [Decidable p]:p→decide p=true:=decide_eq_true
theorem Kg {p:Prop} [Decidable p]:¬p→decide p=false:=decide_eq_false
theorem Kh {α:Type} {l:List α} {i:Nat} {a:α}:l[i]?=some a→∃ h:i<l.length,l[i]=a:=List.getElem?_eq_some_iff.1
theorem Ki {α:Type} {l:List α} {i:Nat} (h:i<l.length):l[i]?=some l[i]:=List.getElem?_eq_getElem h
theorem Kj {α:Type} {a b:α}:some a=some b→a=b:=Option.some.inj
theorem Kk {α:Type} {l:List α} {i:Nat} {a:α}:l[i]?=some a→a∈l:=List.mem_of_getElem?
theorem Km {α:Type} {a:α}:¬a∈([]:List α):=List.not_mem_nil
theorem Kn {n:Nat}:n≤n:=Nat.le_refl n
theorem Ko {α:Type} {a b:List α}:(a++b).length=a.length+b.length:=List.length_append
theorem Kp {α:Type} {a:α}:[a].length=1:=rfl
theorem Kq (a b:Bool):((a&&b)=true)=(a=true∧b=true):=Bool.and_eq_true a b
theorem Kr {p:Prop} [Decidable p]:(decide p=true)=p:=decide_eq_true_eq
theorem Ks {α β:Type} {l:List α} (f:α→β):(l.map f).length=l.length:=List.length_map f
theorem Kt {α:Type} {a:α} {s t:List α}:a∈s++t↔a∈s∨a∈t:=List.mem_append
theorem Ku {α β:Type} {b:β} {f:α→β} {l:List α}:b∈l.map f↔∃ a∈l,f a=b:=List.mem_map
theorem Kv {α:Type} {a b:α}:a∈[b]↔a=b:=List.mem_singleton
theorem Kw {α:Type} {a b:α} {l:List α}:a∈b::l↔a=b∨a∈l:=List.mem_cons
theorem Kx {α:Type} {p:α→Bool} {a:α} {l:List α}:a∈l.filter p↔a∈l∧p a=true:=List.mem_filter
theorem Ky (a b:Bool):((a||b)=true)=(a=true∨b=true):=Bool.or_eq_true a b
theorem Kz {a b:Bool}:(a||b)=false↔a=false∧b=false:=Bool.or_eq_false_iff
open Go.RowKit

inductive AV where
 | junk
 | sc (v:Value)
 | agg (cs:List AV)
 | tup (cs:List AV)
 | list (k:Nat) (xs:List AV)
 | dptr (cs:List AV)
 | ptr (i off:Nat)
 | own (i ver k:Nat) (xs:List AV)
 | ms (i off n cap:Nat)
 | mp (i:Nat)
 | it (i:Nat)
 | vec (i ver k n:Nat)
 | fn (f:FuncId) (caps:List AV)
 | bfn (f:FuncId) (firsts:List AV)
 | opt (c:Bool) (x:AV)
 | vptr (i ver m f:Nat)
 | vsl (i ver k off n:Nat)
 | vcap (i ver k n c:Nat)
 | nst (i ver n:Nat) (pre:List AV) (last:AV)
 | nptr (i ver m:Nat) (u:AV)
 | lst (k:Nat) (xs ys:List AV)

def AV.cells:AV→List AV
 | .agg cs=>cs
 | v=>[v]

def flat:List AV→List AV
 | []=>[]
 | x::r=>x.cells++flat r

def AV.isCell:AV→Bool
 | .sc v=>v.oneCell'
 | .list .. | .dptr .. | .ptr .. | .own .. | .ms .. | .mp .. | .it .. | .vec .. | .fn .. | .bfn .. | .vptr .. | .vsl .. | .vcap .. | .nst .. | .nptr .. | .lst ..=>true
 | _=>false

inductive Jt where
 | box (t:TypeId) (cs:List AV)
 | spare (t k ver hw:Nat)
 | vec (t k ver:Nat) (xs:List AV)
 | map (t:TypeId) (es:List (Value×AV))
 | iter (m n:Nat) (seen:List Nat)

def Jt.keeps:Jt→Nat→Prop
 | .spare _ k _ hw,i=>i < hw*k
 | _,_=>False

abbrev Loc:=List (Nat×Jt)
abbrev Fr:=List (Nat×AV)

def lk:Loc→Nat→Option Jt
 | [],_=>none
 | (i,o)::r,j=>bif Nat.beq i j then some o else lk r j

def look:Fr→Nat→AV
 | [],_=>.junk
 | (i,o)::r,j=>bif Nat.beq i j then o else look r j

structure Hd where
 at_:Nat→Option Nat
 hid:Nat→Nat→Prop

instance:CoeFun Hd (fun _=>Nat→Option Nat):=⟨Hd.at_⟩

structure Qd (w:World) (β:Hd) (L:Loc) (b i:Nat):Prop where
 lt:b < w.heap.size
 seen:¬ β.hid b i
 kept:∀ id o,lk L id=some o→β id=some b→o.keeps i

structure Cfg where
 n:Nat
 base:List Nat
 ro:Option Nat

inductive D (w:World) (S:Nat→Nat→Prop):AV→Value→Prop
 | junk {v:Value}:D w S .junk v
 | sc {v:Value}:D w S (.sc v) v
 | agg {cs:List AV} {vs:Array Value} (hl:vs.size=cs.length) (h:∀ (j:Nat) u v,cs[j]? = some u→vs[j]? = some v→D w S u v):D w S (.agg cs) (.agg vs)
 | tup {cs:List AV} {vs:Array Value} (hl:vs.size=cs.length) (h:∀ (j:Nat) u v,cs[j]? = some u→vs[j]? = some v→D w S u v):D w S (.tup cs) (.tuple vs)
 | nil {k cap:Nat} {a:Option Addr} (h:cap≤maxLen):D w S (.list k []) (.slice a 0 cap)
 | list {k b off cap:Nat} {xs:List AV} (vals:Nat→Value) (hcap:xs.length≤cap) (hm:cap≤maxLen) (hk:∀ x∈xs,x.cells.length=k)
   (hS:∀ j,j < (flat xs).length→S b (off+j)∧w.cell? ⟨b,off+j,none⟩=some (vals j))
   (h:∀ (j:Nat) u,(flat xs)[j]? = some u→D w S u (vals j)):D w S (.list k xs) (.slice (some ⟨b,off,none⟩) xs.length cap)
 | lnil {k cap:Nat} {a:Option Addr} (h:cap≤maxLen):D w S (.lst k [] []) (.slice a 0 cap)
 | lst {k b off cap:Nat} {xs ys:List AV} (vals:Nat→Value) (hcap:xs.length+ys.length≤cap) (hm:cap≤maxLen) (hk:∀ x∈xs++ys,x.cells.length=k)
   (hS:∀ j,j < (flat (xs++ys)).length→S b (off+j)∧w.cell? ⟨b,off+j,none⟩=some (vals j))
   (h:∀ (j:Nat) u,(flat (xs++ys))[j]? = some u→D w S u (vals j)):D w S (.lst k xs ys) (.slice (some ⟨b,off,none⟩) xs.length cap)
 | dptr {b off:Nat} {cs:List AV} (vals:Nat→Value)
   (hS:∀ j,j < cs.length→S b (off+j)∧w.cell? ⟨b,off+j,none⟩=some (vals j))
   (h:∀ (j:Nat) u,cs[j]? = some u→D w S u (vals j)):D w S (.dptr cs) (.pointer (some ⟨b,off,none⟩))
 | fn {f:FuncId} {cs:List AV} {vs:Array Value} (hl:vs.size=cs.length) (h:∀ (j:Nat) u v,cs[j]? = some u→vs[j]? = some v→D w S u v):D w S (.fn f cs) (.func (.func f) #[] vs)
 | bfn {f:FuncId} {cs:List AV} {vs:Array Value} (hl:vs.size=cs.length) (h:∀ (j:Nat) u v,cs[j]? = some u→vs[j]? = some v→D w S u v):D w S (.bfn f cs) (.func (.func f) vs #[])
 | opt {c:Bool} {x:AV} {v:Value} (h:c=true→D w S x v) (h0:c=false→v=undef):D w S (.opt c x) v

theorem D.mono {w w':World} {S S':Nat→Nat→Prop} {u:AV} {v:Value} (h:D w S u v)
  (hs:∀ b i,S b i→S' b i∧w'.cell? ⟨b,i,none⟩=w.cell? ⟨b,i,none⟩):D w' S' u v:=by
 induction h with
 | junk=>exact .junk
 | sc=>exact .sc
 | agg hl _ ih=>exact .agg hl ih
 | tup hl _ ih=>exact .tup hl ih
 | nil h=>exact .nil h
 | list vals hcap hm hk hS _ ih=>exact .list vals hcap hm hk (fun j hj=>⟨(hs _ _ (hS j hj).1).1,((hs _ _ (hS j hj).1).2).trans (hS j hj).2⟩) ih
 | lnil h=>exact .lnil h
 | lst vals hcap hm hk hS _ ih=>exact .lst vals hcap hm hk (fun j hj=>⟨(hs _ _ (hS j hj).1).1,((hs _ _ (hS j hj).1).2).trans (hS j hj).2⟩) ih
 | dptr vals hS _ ih=>exact .dptr vals (fun j hj=>⟨(hs _ _ (hS j hj).1).1,((hs _ _ (hS j hj).1).2).trans (hS j hj).2⟩) ih
 | fn hl _ ih=>exact .fn hl ih
 | bfn hl _ ih=>exact .bfn hl ih
 | opt _ h0 ih=>exact .opt ih h0

def Y8c (w:World) (S:Nat→Nat→Prop) (ob:Option Nat) (t k:Nat) (xs:List AV) (v:Value):Prop:=
 v.ownBlock=ob∧∃ vals:List Value,w.ownsRow 0 t k v xs.length vals∧∀ (j:Nat) u,(flat xs)[j]? = some u→∃ x,vals[j]? = some x∧D w S u x

def R98 (w:World) (ob:Option Nat) (t k n:Nat) (v:Value):Prop:=
 (v=.slice none 0 0∧n=0∧ob=none)∨∃ b cap,v=.slice (some ⟨b,0,none⟩) n cap∧ob=some b∧n≤cap∧cap≤maxLen∧w.shape? b=some (t,cap*k)

def Q4c (ob:Option Nat) (k off n:Nat) (v:Value):Prop:=
 ∃ a cap,v=.slice a n cap∧n≤cap∧cap≤maxLen∧(n=0∨∃ b,ob=some b∧a=some ⟨b,off*k,none⟩)

def Q69 (w:World) (ob:Option Nat) (t k n c:Nat) (v:Value):Prop:=
 (v=.slice none 0 0∧n=0∧c=0∧ob=none)∨∃ b,v=.slice (some ⟨b,0,none⟩) n c∧ob=some b∧n≤c∧c≤maxLen∧w.shape? b=some (t,c*k)

def Y32 (w:World) (ob:Option Nat) (t n:Nat) (v:Value) (vs:Array Value):Prop:=
 (v=.slice none 0 0∧n=0∧ob=none)∨∃ b cap,v=.slice (some ⟨b,0,none⟩) n cap∧ob=some b∧n≤cap∧cap≤maxLen∧w.heap[b]? = some (.cells vs t (0,0))∧vs.size=cap

inductive V (w:World) (β:Hd) (L:Loc):AV→Value→Prop
 | data {u:AV} {v:Value} (h:D w (Qd w β L) u v):V w β L u v
 | agg {cs:List AV} {vs:Array Value} (hl:vs.size=cs.length) (h:∀ (j:Nat) u v,cs[j]? = some u→vs[j]? = some v→V w β L u v):V w β L (.agg cs) (.agg vs)
 | tup {cs:List AV} {vs:Array Value} (hl:vs.size=cs.length) (h:∀ (j:Nat) u v,cs[j]? = some u→vs[j]? = some v→V w β L u v):V w β L (.tup cs) (.tuple vs)
 | ptr {i off b:Nat} {t:TypeId} {cs:List AV} (hi:lk L i=some (.box t cs)) (h:β i=some b):V w β L (.ptr i off) (.pointer (some ⟨b,off,none⟩))
 | own {i ver k:Nat} {xs:List AV} {v:Value} (hd:D w (Qd w β L) (.list k xs) v)
   (hp:∃ t ver' hw,lk L i=some (.spare t k ver' hw)∧ver≤ver'∧(ver'=ver→hw=xs.length∧Y8c w (Qd w β L) (β i) t k xs v)):V w β L (.own i ver k xs) v
 | ms {i off n cap b:Nat} {t:TypeId} {cs:List AV} (hi:lk L i=some (.box t cs)) (h:β i=some b) (hn:n≤cap) (hm:cap≤maxLen):V w β L (.ms i off n cap) (.slice (some ⟨b,off,none⟩) n cap)
 | it {i b m n:Nat} {seen:List Nat} (hi:lk L i=some (.iter m n seen)) (h:β i=some b):V w β L (.it i) (.pointer (some ⟨b,0,none⟩))
 | vec {i ver k n:Nat} {v:Value} (hp:∃ t ver' xs,lk L i=some (.vec t k ver' xs)∧ver≤ver'∧(ver'=ver→n=xs.length∧R98 w (β i) t k n v)) (hv:v.oneCell'=true):V w β L (.vec i ver k n) v
 | vptr {i ver m f:Nat} {v:Value} (hp:∃ t k ver' xs,lk L i=some (.vec t k ver' xs)∧ver≤ver'∧(ver'=ver→∃ b,β i=some b∧v=.pointer (some ⟨b,m*k+f,none⟩))) (hv:v.oneCell'=true):V w β L (.vptr i ver m f) v
 | vsl {i ver k off n:Nat} {v:Value} (hp:∃ t ver' xs,lk L i=some (.vec t k ver' xs)∧ver≤ver'∧(ver'=ver→off+n≤xs.length∧Q4c (β i) k off n v∧(off=0→R98 w (β i) t k n v))) (hv:v.oneCell'=true):V w β L (.vsl i ver k off n) v
 | vcap {i ver k n c:Nat} {v:Value} (hp:∃ t ver' xs,lk L i=some (.vec t k ver' xs)∧ver≤ver'∧(ver'=ver→Q69 w (β i) t k n c v)) (hv:v.oneCell'=true):V w β L (.vcap i ver k n c) v
 | nst {i ver n t ver' hw:Nat} {pre:List AV} {last:AV} {v:Value} (vs:Array Value) (hi:lk L i=some (.spare t 1 ver' hw)) (hle:ver≤ver') (hr:ver'=ver→hw=0∧n=pre.length+(if n=0 then 0 else 1)∧Y32 w (β i) t n v vs)
   (hpre:ver'=ver→∀ (j:Nat) u x,pre[j]? = some u→vs[j]? = some x→D w (Qd w β L) u x) (hlast:∀ x,ver'=ver→0 < n→vs[n - 1]? = some x→V w β L last x) (hv:v.oneCell'=true):V w β L (.nst i ver n pre last) v
 | nptr {i ver m t k ver' hw:Nat} {u:AV} {v:Value} (b:Nat) (vs:Array Value) (hi:lk L i=some (.spare t k ver' hw)) (hle:ver≤ver') (hr:ver'=ver→β i=some b∧v=.pointer (some ⟨b,m,none⟩)∧w.heap[b]? = some (.cells vs t (0,0))∧m < vs.size)
   (hu:∀ x,ver'=ver→vs[m]? = some x→V w β L u x) (hv:v.oneCell'=true):V w β L (.nptr i ver m u) v
 | mp {i b:Nat} {t:TypeId} {es:List (Value×AV)} (hi:lk L i=some (.map t es)) (h:β i=some b):V w β L (.mp i) (.map (some b))
 | fn {f:FuncId} {cs:List AV} {vs:Array Value} (hl:vs.size=cs.length) (h:∀ (j:Nat) u v,cs[j]? = some u→vs[j]? = some v→V w β L u v):V w β L (.fn f cs) (.func (.func f) #[] vs)
 | bfn {f:FuncId} {cs:List AV} {vs:Array Value} (hl:vs.size=cs.length) (h:∀ (j:Nat) u v,cs[j]? = some u→vs[j]? = some v→V w β L u v):V w β L (.bfn f cs) (.func (.func f) vs #[])
 | opt {c:Bool} {x:AV} {v:Value} (h:c=true→V w β L x v) (h0:c=false→v=undef):V w β L (.opt c x) v

theorem V.junk {w:World} {β:Hd} {L:Loc} {v:Value}:V w β L .junk v:=.data .junk
theorem V.sc {w:World} {β:Hd} {L:Loc} {v:Value}:V w β L (.sc v) v:=.data .sc

structure Step (w:World) (β:Hd) (L:Loc) (w':World) (β':Hd) (L':Loc):Prop where
 os:w'.os=w.os
 tape:w'.tape=w.tape
 output:w'.output=w.output∧w.drawn≤w'.drawn
 size:w.heap.size≤w'.heap.size
 hid:∀ b i,b < w.heap.size→(β'.hid b i ↔ β.hid b i)
 stab:∀ b i,Qd w β L b i→Qd w' β' L' b i∧w'.cell? ⟨b,i,none⟩=w.cell? ⟨b,i,none⟩
 far:∀ b,b < w.heap.size→(∀ id,(lk L id).isSome=true→β id≠some b)→w'.heap[b]? = w.heap[b]? ∧ (∀ id,(lk L' id).isSome=true→β' id≠some b)
 box:∀ id t cs,lk L id=some (.box t cs)→β' id=β id∧∃ cs',lk L' id=some (.box t cs')
 map:∀ id t es,lk L id=some (.map t es)→β' id=β id∧∃ es',lk L' id=some (.map t es')
 iter:∀ id m n es,lk L id=some (.iter m n es)→β' id=β id∧∃ n' es',lk L' id=some (.iter m n' es')
 vec:∀ id t k ver xs,lk L id=some (.vec t k ver xs)→∃ ver' xs',lk L' id=some (.vec t k ver' xs')∧ver≤ver' ∧
  (ver'=ver→xs'.length=xs.length∧β' id=β id∧∀ b,β id=some b→w'.shape? b=w.shape? b)
 spare:∀ id t k ver hw,lk L id=some (.spare t k ver hw)→∃ ver' hw',lk L' id=some (.spare t k ver' hw')∧ver≤ver' ∧
  (ver'=ver→hw'=hw∧β' id=β id∧∀ b,β id=some b→w'.heap[b]? = w.heap[b]?)

structure Ha2 (w:World) (β:Hd) (L:Loc) (w':World) (β':Hd) (L':Loc):Prop where
 stab:∀ b i,Qd w β L b i→Qd w' β' L' b i∧w'.cell? ⟨b,i,none⟩=w.cell? ⟨b,i,none⟩
 box:∀ id t cs,lk L id=some (.box t cs)→β' id=β id∧∃ cs',lk L' id=some (.box t cs')
 map:∀ id t es,lk L id=some (.map t es)→β' id=β id∧∃ es',lk L' id=some (.map t es')
 iter:∀ id m n es,lk L id=some (.iter m n es)→β' id=β id∧∃ n' es',lk L' id=some (.iter m n' es')
 vec:∀ id t k ver xs,lk L id=some (.vec t k ver xs)→∃ ver' xs',lk L' id=some (.vec t k ver' xs')∧ver≤ver' ∧
  (ver'=ver→xs'.length=xs.length∧β' id=β id∧∀ b,β id=some b→w'.shape? b=w.shape? b)
 spare:∀ id t k ver hw,lk L id=some (.spare t k ver hw)→∃ ver' hw',lk L' id=some (.spare t k ver' hw')∧ver≤ver' ∧
  (ver'=ver→hw'=hw∧β' id=β id∧∀ b,β id=some b→w'.heap[b]? = w.heap[b]?)
theorem Step.weak {w w':World} {β β':Hd} {L L':Loc} (h:Step w β L w' β' L'):Ha2 w β L w' β' L':=⟨h.stab,h.box,h.map,h.iter,h.vec,h.spare⟩

theorem Step.refl (w:World) (β:Hd) (L:Loc):Step w β L w β L:=
 ⟨rfl,rfl,⟨rfl,Nat.le_refl _⟩,Nat.le_refl _,fun _ _ _=>Iff.rfl,fun _ _ h=>⟨h,rfl⟩,fun _ _ h=>⟨rfl,h⟩,fun _ _ cs h=>⟨rfl,cs,h⟩,fun _ _ es h=>⟨rfl,es,h⟩,fun _ _ n es h=>⟨rfl,n,es,h⟩,fun _ _ _ ver xs h=>⟨ver,xs,h,Nat.le_refl _,fun _=>⟨rfl,rfl,fun _ _=>rfl⟩⟩,fun _ _ _ ver hw h=>⟨ver,hw,h,Nat.le_refl _,fun _=>⟨rfl,rfl,fun _ _=>rfl⟩⟩⟩

theorem Step.trans {w w₁ w₂:World} {β β₁ β₂:Hd} {L L₁ L₂:Loc} (h:Step w β L w₁ β₁ L₁) (k:Step w₁ β₁ L₁ w₂ β₂ L₂):Step w β L w₂ β₂ L₂ where
 os:=k.os.trans h.os
 tape:=k.tape.trans h.tape
 output:=⟨k.output.1.trans h.output.1,Nat.le_trans h.output.2 k.output.2⟩
 size:=Nat.le_trans h.size k.size
 hid:=fun b i hb=>(k.hid b i (Nat.lt_of_lt_of_le hb h.size)).trans (h.hid b i hb)
 stab:=fun b i hs=>by
  obtain⟨h1,h2⟩:=h.stab b i hs
  obtain⟨k1,k2⟩:=k.stab b i h1
  exact⟨k1,k2.trans h2⟩
 far:=fun b hb hf=>by
  obtain⟨h1,h2⟩:=h.far b hb hf
  obtain⟨k1,k2⟩:=k.far b (Nat.lt_of_lt_of_le hb h.size) h2
  exact⟨k1.trans h1,k2⟩
 box:=fun id t cs hi=>by
  obtain⟨h1,cs',h2⟩:=h.box id t cs hi
  obtain⟨k1,k2⟩:=k.box id t cs' h2
  exact⟨k1.trans h1,k2⟩
 map:=fun id t es hi=>by
  obtain⟨h1,es',h2⟩:=h.map id t es hi
  obtain⟨k1,k2⟩:=k.map id t es' h2
  exact⟨k1.trans h1,k2⟩
 iter:=fun id m n es hi=>by
  obtain⟨h1,n',es',h2⟩:=h.iter id m n es hi
  obtain⟨k1,k2⟩:=k.iter id m n' es' h2
  exact⟨k1.trans h1,k2⟩
 vec:=fun id t kk ver xs hi=>by
  obtain⟨v1,xs1,h1,h2,h3⟩:=h.vec id t kk ver xs hi
  obtain⟨v2,xs2,k1,k2,k3⟩:=k.vec id t kk v1 xs1 h1
  refine⟨v2,xs2,k1,Nat.le_trans h2 k2,fun e=>?_⟩
  obtain⟨a1,a2,a3⟩:=h3 (by omega)
  obtain⟨b1,b2,b3⟩:=k3 (by omega)
  exact⟨b1.trans a1,b2.trans a2,fun b hb=>(b3 b (a2.trans hb)).trans (a3 b hb)⟩
 spare:=fun id t kk ver hw hi=>by
  obtain⟨v1,hw1,h1,h2,h3⟩:=h.spare id t kk ver hw hi
  obtain⟨v2,hw2,k1,k2,k3⟩:=k.spare id t kk v1 hw1 h1
  refine⟨v2,hw2,k1,Nat.le_trans h2 k2,fun e=>?_⟩
  obtain⟨a1,a2,a3⟩:=h3 (by omega)
  obtain⟨b1,b2,b3⟩:=k3 (by omega)
  exact⟨b1.trans a1,b2.trans a2,fun b hb=>(b3 b (a2.trans hb)).trans (a3 b hb)⟩

theorem Qc5 {w w':World} {t k n:Nat} {v:Value} {vals:List Value} (h:w.ownsRow 0 t k v n vals) (hb:∀ b,v.ownBlock=some b→w'.heap[b]? = w.heap[b]?) :
  w'.ownsRow 0 t k v n vals:=by
 obtain⟨h1,h2⟩:=h
 refine⟨h1,?_⟩
 rcases h2 with h2 | ⟨g,cap,cur,hv,hg,hh,r⟩
 ·exact .inl h2
 ·exact .inr ⟨g,cap,cur,hv,hg,by rw [hb g (by rw [hv]; rfl)]; exact hh,r⟩

theorem V.stepW {w w':World} {β β':Hd} {L L':Loc} {u:AV} {v:Value} (h:V w β L u v) (hs:Ha2 w β L w' β' L'):V w' β' L' u v:=by
 induction h with
 | data h=>exact .data (h.mono hs.stab)
 | agg hl _ ih=>exact .agg hl ih
 | tup hl _ ih=>exact .tup hl ih
 | ptr hi h=>
  obtain⟨h1,cs',h2⟩:=hs.box _ _ _ hi
  exact .ptr h2 (h1.trans h)
 | own hd hp=>
  obtain⟨t,ver',hw,hi,hle,hx⟩:=hp
  obtain⟨v2,hw2,k1,k2,k3⟩:=hs.spare _ _ _ _ _ hi
  refine .own (hd.mono hs.stab) ⟨t,v2,hw2,k1,by omega,fun e=>?_⟩
  obtain⟨a1,a2,vals,a3,a4⟩:=hx (by omega)
  obtain⟨b1,b2,b3⟩:=k3 (by omega)
  refine⟨b1.trans a1,a2.trans b2.symm,vals,Qc5 a3 (fun b hb=>b3 b (a2 ▸ hb)),fun j u hu=>?_⟩
  obtain⟨x,hx1,hx2⟩:=a4 j u hu
  exact⟨x,hx1,hx2.mono hs.stab⟩
 | ms hi h hn hm=>
  obtain⟨h1,cs',h2⟩:=hs.box _ _ _ hi
  exact .ms h2 (h1.trans h) hn hm
 | mp hi h=>
  obtain⟨h1,cs',h2⟩:=hs.map _ _ _ hi
  exact .mp h2 (h1.trans h)
 | it hi h=>
  obtain⟨h1,n',cs',h2⟩:=hs.iter _ _ _ _ hi
  exact .it h2 (h1.trans h)
 | vec hp hv=>
  obtain⟨t,ver',xs,hi,hle,hx⟩:=hp
  obtain⟨v2,xs2,k1,k2,k3⟩:=hs.vec _ _ _ _ _ hi
  refine .vec ⟨t,v2,xs2,k1,by omega,fun e=>?_⟩ hv
  obtain⟨a1,a2⟩:=hx (by omega)
  obtain⟨b1,b2,b3⟩:=k3 (by omega)
  refine⟨a1.trans b1.symm,?_⟩
  rw [b2]
  rcases a2 with h | ⟨b,cap,h1,h2,h3,h4,h5⟩
  ·exact .inl h
  ·exact .inr ⟨b,cap,h1,h2,h3,h4,(b3 b h2).trans h5⟩
 | vptr hp hv=>
  obtain⟨t,k,ver',xs,hi,hle,hx⟩:=hp
  obtain⟨v2,xs2,k1,k2,k3⟩:=hs.vec _ _ _ _ _ hi
  refine .vptr ⟨t,k,v2,xs2,k1,by omega,fun e=>?_⟩ hv
  obtain⟨b,hb,hv'⟩:=hx (by omega)
  exact⟨b,(k3 (by omega)).2.1.trans hb,hv'⟩
 | vsl hp hv=>
  obtain⟨t,ver',xs,hi,hle,hx⟩:=hp
  obtain⟨v2,xs2,k1,k2,k3⟩:=hs.vec _ _ _ _ _ hi
  refine .vsl ⟨t,v2,xs2,k1,by omega,fun e=>?_⟩ hv
  obtain⟨a1,a2⟩:=hx (by omega)
  obtain⟨b1,b2,b3⟩:=k3 (by omega)
  refine⟨by rw [b1]; exact a1,by rw [b2]; exact a2.1,fun h0=>?_⟩
  rw [b2]
  rcases a2.2 h0 with h | ⟨b,cap,h1,h2,h3,h4,h5⟩
  ·exact .inl h
  ·exact .inr ⟨b,cap,h1,h2,h3,h4,(b3 b h2).trans h5⟩
 | vcap hp hv=>
  obtain⟨t,ver',xs,hi,hle,hx⟩:=hp
  obtain⟨v2,xs2,k1,k2,k3⟩:=hs.vec _ _ _ _ _ hi
  refine .vcap ⟨t,v2,xs2,k1,by omega,fun e=>?_⟩ hv
  obtain⟨b1,b2,b3⟩:=k3 (by omega)
  rw [b2]
  rcases hx (by omega) with h | ⟨b,h1,h2,h3,h4,h5⟩
  ·exact .inl h
  ·exact .inr ⟨b,h1,h2,h3,h4,(b3 b h2).trans h5⟩
 | nst vs hi hle hr hpre _ hv ih=>
  obtain⟨v2,hw2,k1,k2,k3⟩:=hs.spare _ _ _ _ _ hi
  refine .nst vs k1 (by omega) (fun e=>?_) (fun e j u x hu hx=>(hpre (by omega) j u x hu hx).mono hs.stab) (fun x e h0 hx=>ih x (by omega) h0 hx) hv
  obtain⟨a1,a2,a3⟩:=hr (by omega)
  obtain⟨b1,b2,b3⟩:=k3 (by omega)
  refine⟨b1.trans a1,a2,?_⟩
  rw [b2]
  rcases a3 with h | ⟨b,cap,h1,h2,h3,h4,h5,h6⟩
  ·exact .inl h
  ·exact .inr ⟨b,cap,h1,h2,h3,h4,(b3 b h2).trans h5,h6⟩
 | nptr b vs hi hle hr _ hv ih=>
  obtain⟨v2,hw2,k1,k2,k3⟩:=hs.spare _ _ _ _ _ hi
  refine .nptr b vs k1 (by omega) (fun e=>?_) (fun x e hx=>ih x (by omega) hx) hv
  obtain⟨a1,a2,a3,a4⟩:=hr (by omega)
  obtain⟨b1,b2,b3⟩:=k3 (by omega)
  exact⟨b2.trans a1,a2,(b3 _ a1).trans a3,a4⟩
 | fn hl _ ih=>exact .fn hl ih
 | bfn hl _ ih=>exact .bfn hl ih
 | opt _ h0 ih=>exact .opt ih h0

theorem V.step {w w':World} {β β':Hd} {L L':Loc} {u:AV} {v:Value} (h:V w β L u v) (hs:Step w β L w' β' L'):V w' β' L' u v:=h.stepW hs.weak

def MapAt (w:World) (S:Nat→Nat→Prop) (b:Nat) (es:List (Value×AV)):Prop:=
 ∃ (ents:Array MapEntry),w.heap[b]? = some (.map ents ents.size)∧ents.size=es.length ∧
  (∀ (i:Nat) e k u,ents[i]? = some e→es[i]? = some (k,u)→e.key=k∧D w S u e.val∧e.born=i)

def Gd9 (w:World) (β:Hd) (L:Loc) (ob:Option Nat):Jt→Prop
 | .box t cs=>∃ b,ob=some b∧∃ vs:Array Value,w.heap[b]? = some (.cells vs t (0,0))∧vs.size=cs.length∧∀ (j:Nat) u v,cs[j]? = some u→vs[j]? = some v→V w β L u v
 | .spare t k _ hw=>(ob=none∧hw=0)∨∃ b,ob=some b∧∃ vs:Array Value,w.heap[b]? = some (.cells vs t (0,0))∧hw*k≤vs.size
 | .vec t k _ xs=>(∀ x∈xs,x.cells.length=k)∧((ob=none∧xs=[])∨∃ b,ob=some b∧∃ vs:Array Value,w.heap[b]? = some (.cells vs t (0,0))∧xs.length*k≤vs.size∧∀ (j:Nat) u v,(flat xs)[j]? = some u→vs[j]? = some v→D w (Qd w β L) u v)
 | .map _ es=>∃ b,ob=some b∧MapAt w (Qd w β L) b es
 | .iter m n seen=>∃ b,ob=some b∧∃ bm t es,lk L m=some (.map t es)∧β m=some bm∧w.heap[b]? = some (.mapIter (some bm) n seen.toArray n)

structure Sat (w:World) (β:Hd) (L:Loc):Prop where
 hid:∀ b i,β.hid b i→b < w.heap.size
 bnd:∀ id b,(lk L id).isSome=true→β id=some b→b < w.heap.size
 apart:∀ id b j,(lk L id).isSome=true→β id=some b→¬ β.hid b j
 inj:∀ id id' b,(lk L id).isSome=true→(lk L id').isSome=true→β id=some b→β id'=some b→id=id'
 obj:∀ id o,lk L id=some o→Gd9 w β L (β id) o

structure Qe (a:Act) (w:World) (β:Hd) (L:Loc) (l:Fr):Prop where
 tmp:∀ t,V w β L (look l t) (a.tmps.getD t undef)

theorem Qe.stepW {a:Act} {w w':World} {β β':Hd} {L L':Loc} {l:Fr} (h:Qe a w β L l) (hs:Ha2 w β L w' β' L'):Qe a w' β' L' l:=⟨fun t=>(h.tmp t).stepW hs⟩
theorem Qe.step {a:Act} {w w':World} {β β':Hd} {L L':Loc} {l:Fr} (h:Qe a w β L l) (hs:Step w β L w' β' L'):Qe a w' β' L' l:=
 ⟨fun t=>(h.tmp t).step hs⟩

def ev (l:Fr):Operand→AV
 | .tmp t=>look l t
 | .const v=>.sc v
 | .global g=>.sc (.pointer (some ⟨g,0,none⟩))
 | .func f=>.fn f []

theorem Qe.ev {a:Act} {w:World} {β:Hd} {L:Loc} {l:Fr} (h:Qe a w β L l) (x:Operand):V w β L (ev l x) (a.eval x):=by
 cases x with
 | tmp t=>exact h.tmp t
 | const v=>exact .sc
 | global g=>exact .sc
 | func f=>exact .fn rfl (fun j u v hu=>by simp at hu)

theorem Hfb {a:Act} {d t:Nat} {v:Value} (hd:d < a.tmps.size):(a.put (some d) v).tmps.getD t undef=if d=t then v else a.tmps.getD t undef:=by
 simp only [Act.put,Array.getD_eq_getD_getElem?,Array.getElem?_setIfInBounds]
 split
 ·subst_vars; simp
 ·rfl

theorem Qe.put {a:Act} {w:World} {β:Hd} {L:Loc} {l:Fr} {d:Nat} {u:AV} {v:Value} (h:Qe a w β L l) (hd:d < a.tmps.size) (hv:V w β L u v) :
  Qe (a.put (some d) v) w β L ((d,u)::l):=by
 refine⟨fun t=>?_⟩
 rw [Hfb hd]
 by_cases e:d=t
 ·subst e; simpa [look] using hv
 ·have:Nat.beq d t=false:=by
   cases hb:Nat.beq d t with
   | false=>rfl
   | true=>exact absurd (Nat.eq_of_beq_eq_true hb) e
  simpa [look,this,e] using h.tmp t

structure Hab (ro:Option Nat) (B:Nat) (w:World) (β:Hd) (L:Loc) (ds:List Deferred):Prop where
 top:ro.isSome=true→ds=[]
 nodup:ds.Nodup
 each:∀ d∈ds,∃ D,d={ target:=.collected D,args:=#[] }∧B≤D∧w.heap[D]? = some (.deferred (some []))∧∀ id,(lk L id).isSome=true→β id≠some D
theorem Hab.nil {ro:Option Nat} {B:Nat} {w:World} {β:Hd} {L:Loc}:Hab ro B w β L []:=⟨fun _=>rfl,List.nodup_nil,fun d hd=>(List.not_mem_nil hd).elim⟩
theorem Hab.step {ro:Option Nat} {B:Nat} {w w':World} {β β':Hd} {L L':Loc} {ds:List Deferred} (h:Hab ro B w β L ds) (hs:Step w β L w' β' L'):Hab ro B w' β' L' ds:=
 ⟨h.top,h.nodup,fun d hd=>by
  obtain⟨D,e,hB,hD,hL⟩:=h.each d hd
  have hf:=hs.far D (Array.getElem?_eq_some_iff.1 hD).1 hL
  exact⟨D,e,hB,hf.1.trans hD,hf.2⟩⟩
theorem Hab.sub {ro:Option Nat} {B:Nat} {w:World} {β β':Hd} {L L':Loc} {ds:List Deferred} (h:Hab ro B w β L ds) (hs:∀ id D,(lk L' id).isSome=true→β' id=some D→∃ id',(lk L id').isSome=true∧β id'=some D):Hab ro B w β' L' ds:=
 ⟨h.top,h.nodup,fun d hd=>by
  obtain⟨D,e,hB,hD,hL⟩:=h.each d hd
  exact⟨D,e,hB,hD,fun id hid he=>by
   obtain⟨id',h1,h2⟩:=hs id D hid he
   exact hL id' h1 h2⟩⟩

structure Ys (N:Cfg) (w0:World) (β0:Hd) (L0:Loc) (a:Act) (w:World) (β:Hd) (l:Fr) (L:Loc):Prop where
 sat:Sat w β L
 step:Step w0 β0 L0 w β L
 frame:Qe a w β L l
 size:N.n≤a.tmps.size
 base:∀ id,(lk L0 id).isSome=true→id∈N.base
 defers:Hab N.ro w0.heap.size w β L a.defers

structure Post where
 norm:Fr→Loc→Prop
 ret:Fr→Loc→Prop
 exit:Nat→Fr→Loc→Prop

def Post.seq (Q:Post) (K:Fr→Loc→Prop):Post:=⟨K,Q.ret,Q.exit⟩
def Post.blk (Q:Post) (i:Nat):Post:=⟨Q.norm,Q.ret,fun j l L=>bif Nat.beq j i then Q.norm l L else Q.exit j l L⟩

def Post.out (Q:Post) (N:Cfg) (w0:World) (β0:Hd) (L0:Loc):Exit→Act→World→Prop
 | .normal,a,w=>∃ β l L,Ys N w0 β0 L0 a w β l L∧Q.norm l L
 | .ret,a,w=>∃ β l L,Ys N w0 β0 L0 a w β l L∧Q.ret l L
 | .exit i,a,w=>∃ β l L,Ys N w0 β0 L0 a w β l L∧Q.exit i l L
 | _,_,_=>False

abbrev FR (ro:Option Nat):Fence:={ Fence.wide with round:=ro }
def G77 (o:Oper):Bool:=match o.op with
 | .defer _=>false
 | _=>true
theorem Y21 {o:Oper} (h:G77 o=true):∀ c,o.op≠.defer c:=fun c e=>by unfold G77 at h; rw [e] at h; cases h
theorem Re5 {ro:Option Nat} {n:Nat} {P:Program} {row:String} {args:Array Value} {w:World} {R:Value→World→Prop} (h:Rows P row args w R):RowsIn (FR ro) n P row args w R:=
 fun c cs _=>let ⟨v,w',r,s⟩:=h c cs; ⟨v,w',r,stepsIn_wide.2 s⟩
theorem H4f {ro:Option Nat} {n:Nat} {P:Program} {o:Oper} {a:Act} {w:World} {K:Act→World→Prop} {Q:Exit→Act→World→Prop} (hn:G77 o=true) (h:o.wp P a w K Q):o.wpIn (FR ro) n P a w K Q:=by
 refine⟨fun _ _=>trivial,?_⟩
 rw [Oper.semAt_eq _ _ _ (Y21 hn)]
 unfold Oper.wp at h
 generalize (execOp a.eval o).run P w=r at h
 cases r with
 | ok x w'=>
  cases x <;> simp only [Oper.upon,Oper.uponIn] at h ⊢ <;>
   first
    | exact h
    | exact⟨fun e=>(by cases e),callsIn_wide.2 h⟩
    | exact⟨fun e=>(by cases e),Re5 h⟩
    | exact h.elim
 | halt x w'=>cases x <;> simp only [Oper.upon,Oper.uponIn] at h ⊢ <;> exact h
theorem H1d {ro:Option Nat} {n:Nat} {P:Program} {ops:Array Oper} {o:Oper} {rest:List Oper} {a:Act} {w:World} {Q:Exit→Act→World→Prop} (hg:o.guard=none) (hn:G77 o=true)
  (h:∀ K:Act→World→Prop,(∀ a w,wpListIn (FR ro) n P ops Q rest a w→K a w)→o.wp P a w K Q):wpListIn (FR ro) n P ops Q (o::rest) a w:=
 wpListIn_plain hg fun K hK=>H4f hn (h K hK)

def JC (P:Program) (N:Cfg) (c:Code) (Q:Post) (l:Fr) (L:Loc):Prop:=
 ∀ (n:Nat) w0 β0 L0 a w β,Ys N w0 β0 L0 a w β l L→c.wpIn (FR N.ro) n P (Q.out N w0 β0 L0) a w

def JL (P:Program) (N:Cfg) (ops:Array Oper) (rest:List Oper) (Q:Post) (l:Fr) (L:Loc):Prop:=
 ∀ (n:Nat) w0 β0 L0 a w β,Ys N w0 β0 L0 a w β l L→wpListIn (FR N.ro) n P ops (Q.out N w0 β0 L0) rest a w

section code
variable {P:Program} {N:Cfg} {Q:Post} {l:Fr} {L:Loc}

theorem G5 {x y:Code} (h:∀ K:Fr→Loc→Prop,(∀ l L,JC P N y Q l L→K l L)→JC P N x (Q.seq K) l L):JC P N (.seq x y) Q l L:=
 fun n w0 β0 L0 a w β hs=>wpIn_seq (Code.wpIn_mono (fun e a' w' q=>by
  cases e with
  | normal=>obtain⟨β',l',L',hs',hq⟩:=q; exact hq n w0 β0 L0 a' w' β' hs'
  | exit i=>exact q
  | ret=>exact q
  | goto l=>exact q
  | panic c=>exact q
  | outgrown=>exact q) (h (fun l L=>JC P N y Q l L) (fun _ _ h=>h) n w0 β0 L0 a w β hs))

theorem Gm (h:Q.norm l L):JC P N .skip Q l L:=fun _ _ _ _ _ _ β hs=>wpIn_skip ⟨β,l,L,hs,h⟩
theorem Gq (h:Q.ret l L):JC P N .ret Q l L:=fun _ _ _ _ _ _ β hs=>wpIn_ret ⟨β,l,L,hs,h⟩
theorem Hi {i:Nat} (h:Q.exit i l L):JC P N (.exit i) Q l L:=fun _ _ _ _ _ _ β hs=>wpIn_exit ⟨β,l,L,hs,h⟩

theorem V.inv_sc {w:World} {β:Hd} {v x:Value} (h:V w β L (.sc v) x):x=v:=by
 cases h with
 | data h=>cases h; rfl

theorem Gj {c:Operand} {x y:Code} {b:Bool} (hc:ev l c=.sc (.bool b)) (ht:b=true→JC P N x Q l L) (hf:b=false→JC P N y Q l L):JC P N (.cond c x y) Q l L:=
 fun n w0 β0 L0 a w β hs=>by
  have hv:=hs.frame.ev c
  rw [hc] at hv
  exact wpIn_cond_split hv.inv_sc (fun e=>ht e n w0 β0 L0 a w β hs) (fun e=>hf e n w0 β0 L0 a w β hs)

theorem Gp {i:Nat} {c:Code} (h:JC P N c (Q.blk i) l L):JC P N (.block i c) Q l L:=
 fun n w0 β0 L0 a w β hs=>wpIn_block (Code.wpIn_mono (fun e a' w' q=>by
  cases e with
  | normal=>exact q
  | exit j=>
   obtain⟨β',l',L',hs',hq⟩:=q
   simp only [Exit.inBlock]
   by_cases e:j=i
   ·subst e
    simp only [if_true]
    exact⟨β',l',L',hs',by simpa [Post.blk] using hq⟩
   ·have hb:Nat.beq j i=false:=by
     cases hb:Nat.beq j i with
     | false=>rfl
     | true=>exact absurd (Nat.eq_of_beq_eq_true hb) e
    simp only [if_neg e]
    exact⟨β',l',L',hs',by simpa [Post.blk,e] using hq⟩
  | ret=>exact q
  | goto l=>exact q
  | panic c=>exact q
  | outgrown=>exact q) (h n w0 β0 L0 a w β hs))

theorem G2 {id:Nat} {ops:List Oper} (h:JL P N ops.toArray ops Q l L):JC P N (.region id ops.toArray false) Q l L:=
 fun n w0 β0 L0 a w β hs=>wpIn_region_lit (h n w0 β0 L0 a w β hs)

theorem G7 {ops:Array Oper} (h:Q.norm l L):JL P N ops [] Q l L:=
 fun _ _ _ _ _ _ β hs=>⟨β,l,L,hs,h⟩
end code

def H5 (P:Program) (o:Oper) (l:Fr) (L:Loc) (R:AV→Loc→Prop):Prop:=
 ∀ (a:Act) (w:World) (β:Hd) (K:Act→World→Prop) (Q:Exit→Act→World→Prop),Sat w β L→Qe a w β L l →
  (∀ u L' v w' β',R u L'→Sat w' β' L'→Step w β L w' β' L'→V w' β' L' u v→K (a.put o.dst v) w')→o.wp P a w K Q

theorem Act.put_defers' (a:Act) (x:Option Tmp) (v:Value):(a.put x v).defers=a.defers:=by cases x <;> rfl
theorem Act.put_size (a:Act) (x:Option Tmp) (v:Value):(a.put x v).tmps.size=a.tmps.size:=by cases x <;> simp [Act.put]

section ops
variable {P:Program} {N:Cfg} {Q:Post} {l:Fr} {L:Loc} {ops:Array Oper} {o:Oper} {rest:List Oper} {R:AV→Loc→Prop}

theorem H90 {d:Nat} (hg:o.guard=none) (hd:o.dst=some d) (hn:Nat.blt d N.n=true) (h:H5 P o l L R)
  (hk:∀ u L',R u L'→JL P N ops rest Q ((d,u)::l) L') (hnd:G77 o=true:=by rfl):JL P N ops (o::rest) Q l L:=by
 intro n w0 β0 L0 a w β hs
 refine H1d hg hnd fun K hK=>h a w β K _ hs.sat hs.frame ?_
 intro u L' v w' β' hr hsat hst hv
 have hlt:d < a.tmps.size:=Nat.lt_of_lt_of_le (by simpa [Nat.blt_eq] using hn) hs.size
 rw [hd]
 refine hK _ _ (hk u L' hr n w0 β0 L0 _ w' β' ⟨hsat,hs.step.trans hst,(hs.frame.step hst).put hlt hv,by rw [Act.put_size]; exact hs.size,hs.base,by rw [Act.put_defers']; exact hs.defers.step hst⟩)

theorem Y35 (hg:o.guard=none) (hd:o.dst=none) (h:H5 P o l L R)
  (hk:∀ u L',R u L'→JL P N ops rest Q l L') (hnd:G77 o=true:=by rfl):JL P N ops (o::rest) Q l L:=by
 intro n w0 β0 L0 a w β hs
 refine H1d hg hnd fun K hK=>h a w β K _ hs.sat hs.frame ?_
 intro u L' v w' β' hr hsat hst hv
 rw [hd]
 exact hK _ _ (hk u L' hr n w0 β0 L0 _ w' β' ⟨hsat,hs.step.trans hst,hs.frame.step hst,hs.size,hs.base,hs.defers.step hst⟩)

end ops

def Is (u:AV) (L:Loc):AV→Loc→Prop:=fun u' L'=>u'=u∧L'=L

section ops
variable {P:Program} {N:Cfg} {Q:Post} {l:Fr} {L L':Loc} {ops:Array Oper} {o:Oper} {rest:List Oper} {u:AV}

theorem G0 {d:Nat} (h:H5 P o l L (Is u L')) (hk:JL P N ops rest Q ((d,u)::l) L') (hg:o.guard=none:=by rfl) (hd:o.dst=some d:=by rfl) (hn:Nat.blt d N.n=true:=by rfl) (hnd:G77 o=true:=by rfl) :
  JL P N ops (o::rest) Q l L:=H90 hg hd hn h (fun _ _ e=>by obtain⟨rfl,rfl⟩:=e; exact hk) hnd

theorem JLg (v:AV) {d:Nat} (h:H5 P o l L (Is v L')) (hk:JL P N ops rest Q ((d,v)::l) L') (hg:o.guard=none:=by rfl) (hd:o.dst=some d:=by rfl) (hn:Nat.blt d N.n=true:=by rfl) (hnd:G77 o=true:=by rfl) :
    JL P N ops (o::rest) Q l L:=G0 h hk hg hd hn hnd
theorem JLh (v:AV) {d:Nat} (h:H5 P o l L (Is v L')) (hd:o.dst=some d) (hk:JL P N ops rest Q ((d,v)::l) L') (hg:o.guard=none:=by rfl) (hn:Nat.blt d N.n=true:=by rfl) (hnd:G77 o=true:=by rfl) :
    JL P N ops (o::rest) Q l L:=G0 h hk hg hd hn hnd
theorem O.{uu} {α:Sort uu} {a:α}:a=a:=rfl
theorem G:True:=trivial
theorem Je (h:H5 P o l L (Is u L')) (hk:JL P N ops rest Q l L') (hg:o.guard=none:=by rfl) (hd:o.dst=none:=by rfl) (hnd:G77 o=true:=by rfl) :
  JL P N ops (o::rest) Q l L:=Y35 hg hd h (fun _ _ e=>by obtain⟨rfl,rfl⟩:=e; exact hk) hnd

end ops

def Ym (P:Program) (f:FuncId) (args:List AV) (L0:Loc) (R:AV→Loc→Prop):Prop:=
 ∀ (w:World) (β:Hd) (vs:Array Value),Sat w β L0→vs.size=args.length→(∀ (j:Nat) u v,args[j]? = some u→vs[j]? = some v→V w β L0 u v) →
  Calls P f vs w fun e w'=>∃ v r β' L',e=.returned v∧Sat w' β' L'∧Step w β L0 w' β' L'∧V w' β' L' r v∧R r L'


/-! ### Reading off what a value can be -/
section inv
variable {w:World} {β:Hd} {L:Loc}

theorem V.inv_dptr {cs:List AV} {x:Value} (h:V w β L (.dptr cs) x):D w (Qd w β L) (.dptr cs) x:=by
 cases h with | data h=>exact h
theorem V.inv_list {k:Nat} {xs:List AV} {x:Value} (h:V w β L (.list k xs) x):D w (Qd w β L) (.list k xs) x:=by
 cases h with | data h=>exact h
theorem V.inv_ptr {i off:Nat} {x:Value} (h:V w β L (.ptr i off) x):∃ b,β i=some b∧x=.pointer (some ⟨b,off,none⟩):=by
 cases h with
 | data h=>cases h
 | ptr hi h=>exact⟨_,h,rfl⟩
theorem V.inv_mp {i:Nat} {x:Value} (h:V w β L (.mp i) x):∃ b,β i=some b∧x=.map (some b):=by
 cases h with
 | data h=>cases h
 | mp hi h=>exact⟨_,h,rfl⟩
theorem V.inv_agg {cs:List AV} {x:Value} (h:V w β L (.agg cs) x):∃ vs:Array Value,x=.agg vs∧vs.size=cs.length∧∀ (j:Nat) u v,cs[j]? = some u→vs[j]? = some v→V w β L u v:=by
 cases h with
 | data h=>cases h with | agg hl h=>exact⟨_,rfl,hl,fun j u v hu hv=>.data (h j u v hu hv)⟩
 | agg hl h=>exact⟨_,rfl,hl,h⟩
theorem V.inv_tup {cs:List AV} {x:Value} (h:V w β L (.tup cs) x):∃ vs:Array Value,x=.tuple vs∧vs.size=cs.length∧∀ (j:Nat) u v,cs[j]? = some u→vs[j]? = some v→V w β L u v:=by
 cases h with
 | data h=>cases h with | tup hl h=>exact⟨_,rfl,hl,fun j u v hu hv=>.data (h j u v hu hv)⟩
 | tup hl h=>exact⟨_,rfl,hl,h⟩
theorem V.inv_fn {f:FuncId} {cs:List AV} {x:Value} (h:V w β L (.fn f cs) x):∃ vs:Array Value,x=.func (.func f) #[] vs∧vs.size=cs.length∧∀ (j:Nat) u v,cs[j]? = some u→vs[j]? = some v→V w β L u v:=by
 cases h with
 | data h=>cases h with | fn hl h=>exact⟨_,rfl,hl,fun j u v hu hv=>.data (h j u v hu hv)⟩
 | fn hl h=>exact⟨_,rfl,hl,h⟩
theorem V.inv_bfn {f:FuncId} {cs:List AV} {x:Value} (h:V w β L (.bfn f cs) x):∃ vs:Array Value,x=.func (.func f) vs #[]∧vs.size=cs.length∧∀ (j:Nat) u v,cs[j]? = some u→vs[j]? = some v→V w β L u v:=by
 cases h with
 | data h=>cases h with | bfn hl h=>exact⟨_,rfl,hl,fun j u v hu hv=>.data (h j u v hu hv)⟩
 | bfn hl h=>exact⟨_,rfl,hl,h⟩
theorem V.inv_opt {x:AV} {v:Value} (h:V w β L (.opt true x) v):V w β L x v:=by
 cases h with
 | data h=>cases h with | opt h=>exact .data (h rfl)
 | opt h=>exact h rfl
theorem V.inv_opt0 {x:AV} {v:Value} (h:V w β L (.opt false x) v):v=undef:=by
 cases h with
 | data h=>cases h with | opt _ h=>exact h rfl
 | opt _ h=>exact h rfl

theorem V.cell {u:AV} {v:Value} (h:V w β L u v) (hc:u.isCell=true):v.oneCell'=true:=by
 cases h with
 | data h=>cases h <;> first | rfl | (simp [AV.isCell] at hc; done) | exact hc
 | own hd _=>cases hd <;> rfl
 | vec _ hv=>exact hv
 | vptr _ hv=>exact hv
 | vsl _ hv=>exact hv
 | vcap _ hv=>exact hv
 | nst _ _ _ _ _ _ hv=>exact hv
 | nptr _ _ _ _ _ _ hv=>exact hv
 | _=>first | rfl | (simp [AV.isCell] at hc; done)

def AV.flatOk (u:AV):Bool:=u.cells.all AV.isCell

theorem V.cells {u:AV} {v:Value} (h:V w β L u v) (hc:u.flatOk=true) :
  v.cells.size=u.cells.length∧(∀ (j:Nat) a b,u.cells[j]? = some a→v.cells[j]? = some b→V w β L a b)∧∀ b∈v.cells.toList,b.oneCell'=true:=by
 have one:∀ (u:AV) (v:Value),V w β L u v→u.isCell=true→u.cells=[u] →
   v.cells.size=u.cells.length∧(∀ (j:Nat) a b,u.cells[j]? = some a→v.cells[j]? = some b→V w β L a b)∧∀ b∈v.cells.toList,b.oneCell'=true:=by
  intro u v hv hu he
  have h1:=hv.cell hu
  have h2:v.cells=#[v]:=by cases v <;> first | rfl | simp [Value.oneCell'] at h1
  rw [h2,he]
  refine⟨rfl,fun j a b ha hb=>?_,fun b hb=>by simp at hb; subst hb; exact h1⟩
  cases j with
  | zero=>simp at ha hb; subst ha; subst hb; exact hv
  | succ j=>simp at ha
 by_cases hagg:∃ cs,u=.agg cs
 ·obtain⟨cs,rfl⟩:=hagg
  obtain⟨vs,rfl,hl,hh⟩:=h.inv_agg
  refine⟨hl,hh,fun b hb=>?_⟩
  obtain⟨j,hj,e⟩:=List.mem_iff_getElem.1 hb
  have hj':j < vs.size:=by simpa [Value.cells] using hj
  have hj2:j < cs.length:=by omega
  have hv:=hh j cs[j] vs[j] (by simp [hj2]) (by simp [hj'])
  have hcc:cs[j].isCell=true:=by
   simp only [AV.flatOk,AV.cells,List.all_eq_true] at hc
   exact hc _ (List.getElem_mem hj2)
  have:=hv.cell hcc
  simp only [Value.cells,Array.getElem_toList] at e
  rw [← e]; exact this
 ·have he:u.cells=[u]:=by cases u <;> first | rfl | exact absurd ⟨_,rfl⟩ hagg
  refine one u v h ?_ he
  simpa [AV.flatOk,he] using hc
end inv

/-! ### Facts on types, asked of the program by the kernel -/
def Qi (P:Program) (T f off:Nat):Bool:=
 match P.underlying T with
 | some (.struct fs)=>match fs[f]? with
  | some fld=>fld.offset==off&&(match P.info? fld.type with | some i=>i.size != 0 | none=>false)
  | none=>false
 | _=>false
def Z1 (P:Program) (T:Nat):Bool:=
 match P.underlying T with
 | some (.struct _) | some (.array _ _) | none=>false
 | _=>true
def Gff (P:Program) (T k:Nat):Bool:=
 (match P.underlying T with
 | some (.struct _) | some (.array _ _)=>true
 | _=>false)&&(match P.info? T with | some i=>i.size==k | none=>false)
def Zf (P:Program) (T k:Nat):Bool:=match P.info? T with | some i=>i.size==k | none=>false
def J79 (P:Program) (T:Nat) (k:IntKind):Bool:=match P.underlying T with | some (.int k')=>decide (k'=k) | _=>false
def sliceB (P:Program) (T E k:Nat):Bool:=(match P.underlying T with | some (.slice e)=>e==E | _=>false)&&Zf P E k
def G05 (P:Program) (T k:Nat):Bool:=match P.info? T with | some i=>(match i.zero with | some z=>z.cells.size==k | none=>false) | none=>false
def Zr (P:Program) (E k by_:Nat):Bool:=match P.info? E with | some i=>i.size==k&&i.bytes==by_&&(match i.zero with | some z=>z.cells.size==k | none=>false)&&decide (0 < k) | none=>false
def Hf (P : Program) (f : FuncId) : Bool := match P.funcs[f]? with | some fn => !(fn.name == "runtime.NumGoroutine") && fn.body.isSome | none => false
def Jd9 (P:Program) (T:Nat):Bool:=match P.underlying T with | some .bool=>true | _=>false
section facts
variable {P:Program}
theorem Zf.out {T k:Nat} (h:Zf P T k=true):∃ i,P.info? T=some i∧i.size=k:=by
 unfold Zf at h; split at h
 ·exact⟨_,‹_›,by simpa using h⟩
 ·cases h
theorem Qw {T k:Nat} (h:Zf P T k=true) (w:World):(sizeOf T).run P w=.ok k w:=by
 obtain⟨i,hi,rfl⟩:=Zf.out h
 simp [sizeOf,typeInfo,hi]
theorem Gff.size {T k:Nat} (h:Gff P T k=true):Zf P T k=true:=by
 simp only [Gff,Kq] at h
 exact h.2
theorem Q25 {T k:Nat} (h:Gff P T k=true) (w:World):(isAgg T).run P w=.ok true w:=by
 simp only [Gff,Kq] at h
 have h1:=h.1
 split at h1
 ·simp [isAgg,underlying,‹P.underlying T=_›]
 ·simp [isAgg,underlying,‹P.underlying T=_›]
 ·cases h1
theorem H2c {T:Nat} (h:Z1 P T=true) (w:World):(isAgg T).run P w=.ok false w:=by
 unfold Z1 at h
 split at h
 ·cases h
 ·cases h
 ·cases h
 ·rename_i h1 h2 h3
  cases hu:P.underlying T with
  | none=>exact absurd hu h3
  | some d=>cases d <;> first | (simp [isAgg,underlying,hu]; done) | exact absurd hu (h1 _) | exact absurd hu (h2 _ _)
theorem J79.out {T:Nat} {k:IntKind} (h:J79 P T k=true):P.underlying T=some (.int k):=by
 unfold J79 at h; split at h
 ·rename_i k' hk; have:=Kd h; subst this; exact hk
 ·cases h
theorem Jd9.out {T:Nat} (h:Jd9 P T=true):P.underlying T=some .bool:=by
 unfold Jd9 at h; split at h
 ·assumption
 ·cases h
theorem sliceB.out {T E k:Nat} (h:sliceB P T E k=true):P.underlying T=some (.slice E)∧Zf P E k=true:=by
 simp only [sliceB,Kq] at h
 refine⟨?_,h.2⟩
 have:=h.1
 split at this
 ·rename_i e he; simp at this; subst this; exact he
 ·cases this
theorem Zr.out {E k b:Nat} (h:Zr P E k b=true):∃ i z,P.info? E=some i∧i.size=k∧i.bytes=b∧i.zero=some z∧z.cells.size=k∧0 < k:=by
 unfold Zr at h
 split at h
 ·rename_i i hi
  simp only [Kq,beq_iff_eq,Kr] at h
  obtain⟨⟨⟨h1,h2⟩,h3⟩,h4⟩:=h
  split at h3
  ·rename_i z hz; exact⟨i,z,hi,h1,h2,hz,by simpa using h3,h4⟩
  ·cases h3
 ·cases h
theorem Qi.out {T f off:Nat} (h:Qi P T f off=true):∃ fs fld i,P.underlying T=some (.struct fs)∧fs[f]? = some fld∧fld.offset=off∧P.info? fld.type=some i∧i.size≠0:=by
 unfold Qi at h
 split at h
 ·rename_i fs hfs
  split at h
  ·rename_i fld hfld
   simp only [Kq,beq_iff_eq] at h
   obtain⟨h1,h2⟩:=h
   split at h2
   ·rename_i i hi; exact⟨fs,fld,i,hfs,hfld,h1,hi,by simpa using h2⟩
   ·cases h2
  ·cases h
 ·cases h
theorem Hf3 {T f off b o:Nat} (h:Qi P T f off=true) (w:World):(Instr.fieldAt T (.pointer (some ⟨b,o,none⟩)) f).run P w=.ok (.pointer (some ⟨b,o+off,none⟩)) w:=by
 obtain⟨fs,fld,i,h1,h2,rfl,h3,h4⟩:=Qi.out h
 simp [Instr.fieldAt,underlying,h1,h2,Instr.sureAddr,fieldPlace,sizeOf,typeInfo,h3,h4,Addr.add_lit]
end facts

/-! ### Operations that leave the world alone -/
section pure_
variable {P:Program} {o:Oper} {l:Fr} {L:Loc} {u:AV}

theorem Hx (h:∀ (a:Act) (w:World) (β:Hd),Sat w β L→Qe a w β L l→∃ v,(execOp a.eval o).run P w=.ok (.value v) w∧V w β L u v):H5 P o l L (Is u L):=by
 intro a w β K Q hsat hf hK
 obtain⟨v,hr,hv⟩:=h a w β hsat hf
 unfold Oper.wp
 rw [hr]
 exact hK u L v w β ⟨rfl,rfl⟩ hsat (Step.refl _ _ _) hv

theorem G4 {x:Operand} (ho:o.op=.move x:=by rfl) (hx:ev l x=u:=by rfl):H5 P o l L (Is u L):=
 Hx fun a w β _ hf=>⟨a.eval x,by simp [execOp,ho],hx ▸ hf.ev x⟩
theorem G6 {x:Operand} (ho:o.op=.assign x:=by rfl) (hx:ev l x=u:=by rfl):H5 P o l L (Is u L):=
 Hx fun a w β _ hf=>⟨a.eval x,by simp [execOp,ho],hx ▸ hf.ev x⟩
theorem H2 {x:Operand} (k:Nat) (ho:o.op=.assign x:=by rfl) (hx:ev l x=.sc (.slice none 0 0):=by rfl):H5 P o l L (Is (.list k []) L):=
 Hx fun a w β _ hf=>⟨a.eval x,by simp [execOp,ho],by
  have h:=hf.ev x
  rw [hx] at h
  rw [h.inv_sc]
  exact .data (.nil (Nat.zero_le _))⟩
theorem Rs {c x y:Operand} {b d:Bool} (ho:o.op=.pick c x y:=by rfl) (hc:ev l c=.sc (.bool b):=by rfl) (hx:ev l x=.sc (.bool true):=by rfl) (hy:ev l y=.opt (!b) (.sc (.bool d)):=by rfl) :
  H5 P o l L (Is (.sc (.bool (b||d))) L):=
 Hx fun a w β _ hf=>by
  have h:=hf.ev c
  have h1:=hf.ev x
  have h2:=hf.ev y
  rw [hc] at h
  rw [hx] at h1
  rw [hy] at h2
  have hb:=h.inv_sc
  have h1':=h1.inv_sc
  cases b
  ·have h2':=(V.inv_opt h2).inv_sc
   exact⟨.bool d,by simp [execOp,ho,hb,asBool,h2'],.sc⟩
  ·exact⟨.bool true,by simp [execOp,ho,hb,asBool,h1'],.sc⟩
theorem J4 {c x y:Operand} {b d:Bool} (ho:o.op=.pick c x y:=by rfl) (hc:ev l c=.sc (.bool b):=by rfl) (hx:ev l x=.opt b (.sc (.bool d)):=by rfl) (hy:ev l y=.sc (.bool false):=by rfl) :
  H5 P o l L (Is (.sc (.bool (b&&d))) L):=
 Hx fun a w β _ hf=>by
  have h:=hf.ev c
  have h1:=hf.ev x
  have h2:=hf.ev y
  rw [hc] at h
  rw [hx] at h1
  rw [hy] at h2
  have hb:=h.inv_sc
  have h2':=h2.inv_sc
  cases b
  ·exact⟨.bool false,by simp [execOp,ho,hb,asBool,h2'],.sc⟩
  ·have h1':=(V.inv_opt h1).inv_sc
   exact⟨.bool d,by simp [execOp,ho,hb,asBool,h1'],.sc⟩

/-! arithmetic -/
theorem H76 {x y:Operand} {T T':TypeId} {op:BinOp} {p q r:Value} (hr:∀ (P:Program) (w:World),(do eqGuard op T x y p q; binOp op T p q).run P w=.ok r w) (hx:ev l x=.sc p) (hy:ev l y=.sc q) (ho:o.op=.binOp op T x y T'):H5 P o l L (Is (.sc r) L):=
 Hx fun a w β _ hf=>by
  have h1:=hf.ev x
  have h2:=hf.ev y
  rw [hx] at h1
  rw [hy] at h2
  refine⟨r,?_,.sc⟩
  have:=hr P w
  simp only [execOp,ho,h1.inv_sc,h2.inv_sc]
  rw [Sem.run_bind,this]
  rfl

section arith
variable {x y:Operand} {T T':TypeId} {k:IntKind} {m n:Int}
theorem Ht {z:Int} (hz:k.wrap (m+n)=z) (ho:o.op=.binOp .add T x y T':=by rfl) (hx:ev l x=.sc (.int k m):=by rfl) (hy:ev l y=.sc (.int k n):=by rfl):H5 P o l L (Is (.sc (.int k z)) L):=
 H76 (fun P w=>by subst hz; simp [eqGuard,binOp,Op.intArith]) hx hy ho
theorem Ge4 {z:Int} (hz:k.wrap (m - n)=z) (ho:o.op=.binOp .sub T x y T':=by rfl) (hx:ev l x=.sc (.int k m):=by rfl) (hy:ev l y=.sc (.int k n):=by rfl):H5 P o l L (Is (.sc (.int k z)) L):=
 H76 (fun P w=>by subst hz; simp [eqGuard,binOp,Op.intArith]) hx hy ho
theorem Yca {z:Int} (hz:k.wrap (m*n)=z) (ho:o.op=.binOp .mul T x y T':=by rfl) (hx:ev l x=.sc (.int k m):=by rfl) (hy:ev l y=.sc (.int k n):=by rfl):H5 P o l L (Is (.sc (.int k z)) L):=
 H76 (fun P w=>by subst hz; simp [eqGuard,binOp,Op.intArith]) hx hy ho
theorem Hy (ho:o.op=.binOp .lss T x y T':=by rfl) (hx:ev l x=.sc (.int k m):=by rfl) (hy:ev l y=.sc (.int k n):=by rfl):H5 P o l L (Is (.sc (.bool (decide (m < n)))) L):=
 H76 (fun P w=>by simp [eqGuard,binOp,Op.intCmp]) hx hy ho
theorem J10 (ho:o.op=.binOp .leq T x y T':=by rfl) (hx:ev l x=.sc (.int k m):=by rfl) (hy:ev l y=.sc (.int k n):=by rfl):H5 P o l L (Is (.sc (.bool (decide (m≤n)))) L):=
 H76 (fun P w=>by simp [eqGuard,binOp,Op.intCmp]) hx hy ho
theorem G41 (ho:o.op=.binOp .gtr T x y T':=by rfl) (hx:ev l x=.sc (.int k m):=by rfl) (hy:ev l y=.sc (.int k n):=by rfl):H5 P o l L (Is (.sc (.bool (decide (n < m)))) L):=
 H76 (fun P w=>by simp [eqGuard,binOp,Op.intCmp]) hx hy ho
theorem G13 (ho:o.op=.binOp .geq T x y T':=by rfl) (hx:ev l x=.sc (.int k m):=by rfl) (hy:ev l y=.sc (.int k n):=by rfl):H5 P o l L (Is (.sc (.bool (decide (n≤m)))) L):=
 H76 (fun P w=>by simp [eqGuard,binOp,Op.intCmp]) hx hy ho
theorem Ju (ho:o.op=.binOp .eql T x y T':=by rfl) (hx:ev l x=.sc (.int k m):=by rfl) (hy:ev l y=.sc (.int k n):=by rfl):H5 P o l L (Is (.sc (.bool (decide (m=n)))) L):=
 H76 (fun P w=>by simp [eqGuard,binOp,Op.intCmp]; by_cases e:m=n <;> simp [e]) hx hy ho
theorem G1d (ho:o.op=.binOp .neq T x y T':=by rfl) (hx:ev l x=.sc (.int k m):=by rfl) (hy:ev l y=.sc (.int k n):=by rfl):H5 P o l L (Is (.sc (.bool (decide (m≠n)))) L):=
 H76 (fun P w=>by simp [eqGuard,binOp,Op.intCmp]; by_cases e:m=n <;> simp [e]) hx hy ho
theorem Q3 {b:Bool} (ho:o.op=.unOp .not T x:=by rfl) (hx:ev l x=.sc (.bool b):=by rfl):H5 P o l L (Is (.sc (.bool (!b))) L):=
 Hx fun a w β _ hf=>by
  have h1:=hf.ev x
  rw [hx] at h1
  exact⟨.bool (!b),by simp [execOp,ho,h1.inv_sc,Op.unary],.sc⟩
theorem Q70 {k':IntKind} {z:Int} (hT:J79 P T' k'=true) (hS:J79 P T k=true) (hz:k'.wrap m=z) (ho:o.op=.convert T T' x:=by rfl) (hx:ev l x=.sc (.int k m):=by rfl):H5 P o l L (Is (.sc (.int k' z)) L):=
 Hx fun a w β _ hf=>by
  have h1:=hf.ev x
  rw [hx] at h1
  exact⟨.int k' z,by subst hz; simp [execOp,ho,h1.inv_sc,convert,underlying,J79.out hT,J79.out hS,Conv.intToInt],.sc⟩
end arith

/-! addresses and loads -/
theorem Y6d {x:Operand} {T f off:Nat} {cs:List AV} (hT:Qi P T f off=true) (ho:o.op=.fieldAddr T x f:=by rfl) (hx:ev l x=.dptr cs:=by rfl):H5 P o l L (Is (.dptr (cs.drop off)) L):=
 Hx fun a w β _ hf=>by
  have h1:=hf.ev x
  rw [hx] at h1
  have h2:=h1.inv_dptr
  obtain⟨ax,hax⟩:∃ ax,a.eval x=ax:=⟨_,rfl⟩
  rw [hax] at h2
  cases h2 with
  | dptr vals hS h=>
   rename_i b o'
   refine⟨.pointer (some ⟨b,o'+off,none⟩),by simp [execOp,ho,hax,Hf3 hT],.data (.dptr (fun j=>vals (off+j)) (fun j hj=>?_) (fun j u hu=>?_))⟩
   ·simp only [List.length_drop] at hj
    have:=hS (off+j) (by omega)
    rw [Nat.add_assoc]; exact this
   ·rw [List.getElem?_drop] at hu
    exact h _ _ hu
theorem G14 {x:Operand} {T f off i o':Nat} (hT:Qi P T f off=true) (ho:o.op=.fieldAddr T x f:=by rfl) (hx:ev l x=.ptr i o':=by rfl):H5 P o l L (Is (.ptr i (o'+off)) L):=
 Hx fun a w β _ hf=>by
  have h1:=hf.ev x
  rw [hx] at h1
  obtain⟨ax,hax⟩:∃ ax,a.eval x=ax:=⟨_,rfl⟩
  rw [hax] at h1
  cases h1 with
  | data h=>cases h
  | ptr hi h=>exact⟨_,by simp only [execOp,ho,hax,Sem.run_bind,Hf3 hT]; rfl,.ptr hi h⟩

theorem Gbf {T b o':Nat} {v:Value} (hT:Z1 P T=true) {w:World} (h:w.cell? ⟨b,o',none⟩=some v):(Instr.loadAt T (.pointer (some ⟨b,o',none⟩))).run P w=.ok v w:=by
 simp [Instr.loadAt,Instr.sureAddr,loadVar,H2c hT,h]

theorem Gef {T k b o':Nat} {vs:List Value} (hT:Gff P T k=true) (hl:vs.length=k) {w:World} (h:∀ (j:Nat) v,vs[j]? = some v→w.cell? ⟨b,o'+j,none⟩=some v) :
  (Instr.loadAt T (.pointer (some ⟨b,o',none⟩))).run P w=.ok (.agg vs.toArray) w:=by
 subst hl
 have:=run_loadCells_list (P:=P) w ⟨b,o',none⟩ vs (fun j v hv=>by rw [Addr.add_lit]; exact h j v hv)
 simp [Instr.loadAt,Instr.sureAddr,loadVar,Q25 hT,Qw (Gff.size hT),this]

theorem Ge {x:Operand} {T:Nat} {cs:List AV} (hT:Z1 P T=true) (ho:o.op=.load T x:=by rfl) (hx:ev l x=.dptr cs:=by rfl) (h0:cs[0]? = some u:=by rfl):H5 P o l L (Is u L):=
 Hx fun a w β _ hf=>by
  have h1:=hf.ev x
  rw [hx] at h1
  have h2:=h1.inv_dptr
  obtain⟨ax,hax⟩:∃ ax,a.eval x=ax:=⟨_,rfl⟩
  rw [hax] at h2
  cases h2 with
  | dptr vals hS h=>
   have hlt:0 < cs.length:=by
    cases cs with
    | nil=>simp at h0
    | cons=>simp
   have hc:=(hS 0 hlt).2
   simp only [Nat.add_zero] at hc
   exact⟨vals 0,by simp [execOp,ho,hax,Gbf hT hc],.data (h 0 u h0)⟩
def takeN:Nat→List AV→Option (List AV)
 | 0,_=>some []
 | _+1,[]=>none
 | n+1,c::r=>match takeN n r with
  | some s=>some (c::s)
  | none=>none
theorem J65:∀ {k:Nat} {cs ds:List AV},takeN k cs=some ds→ds=cs.take k∧k≤cs.length
 | 0,cs,ds,h=>by simp [takeN] at h; subst h; simp
 | k+1,[],ds,h=>by simp [takeN] at h
 | k+1,c::r,ds,h=>by
  simp only [takeN] at h
  cases hr:takeN k r with
  | none=>rw [hr] at h; cases h
  | some s=>
   rw [hr] at h
   simp at h; subst h
   obtain⟨h1,h2⟩:=J65 hr
   subst h1
   exact⟨rfl,by simpa using h2⟩

theorem Gg {x:Operand} {T k:Nat} {cs ds:List AV} (hT:Gff P T k=true) (ho:o.op=.load T x:=by rfl) (hx:ev l x=.dptr cs:=by rfl) (hds:takeN k cs=some ds:=by rfl):H5 P o l L (Is (.agg ds) L):=
 Hx fun a w β _ hf=>by
  have h1:=hf.ev x
  rw [hx] at h1
  have h2:=h1.inv_dptr
  obtain⟨rfl,hk'⟩:=J65 hds
  obtain⟨ax,hax⟩:∃ ax,a.eval x=ax:=⟨_,rfl⟩
  rw [hax] at h2
  cases h2 with
  | dptr vals hS h=>
   rename_i b o'
   refine⟨.agg ((List.range k).map vals).toArray,?_,.data (.agg (by simp; omega) (fun j u v hu hv=>?_))⟩
   ·have:=Gef (P:=P) (b:=b) (o':=o') (vs:=(List.range k).map vals) hT (by simp) (w:=w) (fun j v hv=>by
     have hj:j < k:=by
      rcases Nat.lt_or_ge j k with h | h
      ·exact h
      ·simp [List.getElem?_eq_none (show ((List.range k).map vals).length≤j by simpa using h)] at hv
     simp [hj] at hv
     rw [← hv]
     exact(hS j (by omega)).2)
    simp [execOp,ho,hax,this]
   ·have hj:j < k:=by
     rcases Nat.lt_or_ge j k with h | h
     ·exact h
     ·simp [List.getElem?_take,Nat.not_lt.2 h] at hu
    simp [hj] at hv
    rw [List.getElem?_take,if_pos hj] at hu
    rw [← hv]
    exact h j u hu

theorem J01 {w:World} {β:Hd} {i b:Nat} {t:TypeId} {cs:List AV} (hsat:Sat w β L) (hi:lk L i=some (.box t cs)) (hb:β i=some b) :
  ∃ vs:Array Value,w.heap[b]? = some (.cells vs t (0,0))∧vs.size=cs.length∧∀ (j:Nat) u v,cs[j]? = some u→vs[j]? = some v→V w β L u v:=by
 obtain⟨b',hb',h⟩:=hsat.obj i _ hi
 rw [hb] at hb'; cases hb'
 exact h

theorem G04 {x:Operand} {T i off:Nat} {t:TypeId} {cs:List AV} (hT:Z1 P T=true) (ho:o.op=.load T x:=by rfl) (hx:ev l x=.ptr i off:=by rfl) (hi:lk L i=some (.box t cs):=by rfl) (h0:cs[off]? = some u:=by rfl):H5 P o l L (Is u L):=
 Hx fun a w β hsat hf=>by
  have h1:=hf.ev x
  rw [hx] at h1
  obtain⟨b,hb,hax⟩:=h1.inv_ptr
  obtain⟨vs,hv1,hv2,hv3⟩:=J01 hsat hi hb
  have hoff:off < vs.size:=by
   rw [hv2]
   rcases Nat.lt_or_ge off cs.length with h | h
   ·exact h
   ·simp [List.getElem?_eq_none h] at h0
  have hc:w.cell? ⟨b,off,none⟩=some vs[off]:=by rw [cell_of_row w b off vs t (0,0) hv1]; simp [hoff]
  exact⟨vs[off],by simp [execOp,ho,hax,Gbf hT hc],hv3 off u _ h0 (by simp [hoff])⟩
theorem Q6e {x:Operand} {T k i off:Nat} {t:TypeId} {cs ds:List AV} (hT:Gff P T k=true) (ho:o.op=.load T x:=by rfl) (hx:ev l x=.ptr i off:=by rfl) (hi:lk L i=some (.box t cs):=by rfl) (hds:takeN k (cs.drop off)=some ds:=by rfl) :
  H5 P o l L (Is (.agg ds) L):=
 Hx fun a w β hsat hf=>by
  have h1:=hf.ev x
  rw [hx] at h1
  obtain⟨rfl,hk0⟩:=J65 hds
  obtain⟨b,hb,hax⟩:=h1.inv_ptr
  obtain⟨vs,hv1,hv2,hv3⟩:=J01 hsat hi hb
  refine⟨.agg ((vs.toList.drop off).take k).toArray,?_,.agg (by simp at hk0 ⊢; omega) (fun j u v hu hv=>?_)⟩
  ·have:=Gef (P:=P) (b:=b) (o':=off) (vs:=(vs.toList.drop off).take k) hT (by simp at hk0 ⊢; omega) (w:=w) (fun j v hv=>by
    rw [cell_of_row w b (off+j) vs t (0,0) hv1]
    have hj:j < k:=by
     rcases Nat.lt_or_ge j k with h | h
     ·exact h
     ·simp [List.getElem?_take,Nat.not_lt.2 h] at hv
    rw [List.getElem?_take,if_pos hj,List.getElem?_drop] at hv
    simpa using hv)
   simp [execOp,ho,hax,this]
  ·have hj:j < k:=by
    rcases Nat.lt_or_ge j k with h | h
    ·exact h
    ·simp [List.getElem?_take,Nat.not_lt.2 h] at hu
   rw [List.getElem?_take,if_pos hj,List.getElem?_drop] at hu
   refine hv3 (off+j) u v hu ?_
   simpa [List.getElem?_take,hj,List.getElem?_drop] using hv
end pure_

def upP (β:Hd) (i:Nat) (ob:Option Nat):Hd:={ β with at_:=fun j=>if j=i then ob else β j }

section small
variable {w w':World} {β β':Hd} {L L':Loc}

theorem Gd9.stepW {ob:Option Nat} {o:Jt} (h:Gd9 w β L ob o) (hs:Ha2 w β L w' β' L') (hb:∀ b,ob=some b→w'.heap[b]? = w.heap[b]?):Gd9 w' β' L' ob o:=by
 cases o with
 | box t cs=>
  obtain⟨b,rfl,vs,h1,h2,h3⟩:=h
  exact⟨b,rfl,vs,(hb b rfl).trans h1,h2,fun j u v hu hv=>(h3 j u v hu hv).stepW hs⟩
 | spare t k ver hw=>
  rcases h with h | ⟨b,rfl,vs,h1,h2⟩
  ·exact .inl h
  ·exact .inr ⟨b,rfl,vs,(hb b rfl).trans h1,h2⟩
 | vec t k ver xs=>
  obtain⟨h0,h⟩:=h
  refine⟨h0,?_⟩
  rcases h with h | ⟨b,rfl,vs,h1,h2,h3⟩
  ·exact .inl h
  ·exact .inr ⟨b,rfl,vs,(hb b rfl).trans h1,h2,fun j u v hu hv=>(h3 j u v hu hv).mono hs.stab⟩
 | map t es=>
  obtain⟨b,rfl,ents,h1,h2,h3⟩:=h
  exact⟨b,rfl,ents,(hb b rfl).trans h1,h2,fun i e k u he hu=>⟨(h3 i e k u he hu).1,(h3 i e k u he hu).2.1.mono hs.stab,(h3 i e k u he hu).2.2⟩⟩
 | iter m n seen=>
  obtain⟨b,rfl,bm,t,es,hl,h0,h1⟩:=h
  obtain⟨e1,es',e2⟩:=hs.map _ _ _ hl
  exact⟨b,rfl,bm,t,es',e2,e1.trans h0,(hb b rfl).trans h1⟩
theorem Gd9.step {ob:Option Nat} {o:Jt} (h:Gd9 w β L ob o) (hs:Step w β L w' β' L') (hb:∀ b,ob=some b→w'.heap[b]? = w.heap[b]?):Gd9 w' β' L' ob o:=h.stepW hs.weak hb

theorem Gs (i j:Nat) (o:Jt) (L:Loc):lk ((i,o)::L) j=if i=j then some o else lk L j:=by
 by_cases e:i=j
 ·subst e; simp [lk]
 ·have:Nat.beq i j=false:=by
   cases hb:Nat.beq i j with
   | false=>rfl
   | true=>exact absurd (Nat.eq_of_beq_eq_true hb) e
  simp [lk,this,e]

theorem Qo (w:World) (o:Obj) {b:Nat} (h:b < w.heap.size):(w.alloc o).heap[b]? = w.heap[b]? := by
 show (w.heap.push o)[b]? = _
 rw [Array.getElem?_push,if_neg (by omega)]

theorem G5a {w w':World} {b:Nat} (h:w'.heap[b]? = w.heap[b]?):w'.shape? b=w.shape? b:=by
 unfold World.shape?; rw [h]

theorem Step.alloc {i:Nat} {lo:Jt} (hi:lk L i=none) (hbnd:∀ id b,(lk L id).isSome=true→β id=some b→b < w.heap.size) (o:Obj) :
  Step w β L (w.alloc o) (upP β i (some w.heap.size)) ((i,lo)::L) where
 os:=rfl
 tape:=rfl
 output:=⟨rfl,Kn⟩
 size:=by simp
 hid:=fun _ _ _=>Iff.rfl
 stab:=fun b j hs=>by
  refine⟨⟨by have:=hs.1; simp; omega,hs.seen,fun id ob hid hb=>?_⟩,?_⟩
  ·rw [Gs] at hid
   by_cases e:i=id
   ·subst e; simp [upP] at hb; have:=hs.1; omega
   ·rw [if_neg e] at hid
    simp only [upP,if_neg (Ne.symm e)] at hb
    exact hs.kept id ob hid hb
  ·exact World.cell?_of_block (w:=w) (Qo w o hs.1)
 far:=fun b hb hf=>by
  refine⟨Qo w o hb,fun id hid e=>?_⟩
  rw [Gs] at hid
  by_cases e':i=id
  ·subst e'; simp [upP] at e; omega
  ·rw [if_neg e'] at hid
   simp only [upP,if_neg (Ne.symm e')] at e
   exact hf id hid e
 box:=fun id t cs hid=>by
  have e:i≠id:=fun e=>by subst e; rw [hi] at hid; cases hid
  exact⟨by simp [upP,Ne.symm e],cs,by rw [Gs,if_neg e]; exact hid⟩
 map:=fun id t cs hid=>by
  have e:i≠id:=fun e=>by subst e; rw [hi] at hid; cases hid
  exact⟨by simp [upP,Ne.symm e],cs,by rw [Gs,if_neg e]; exact hid⟩
 iter:=fun id t n cs hid=>by
  have e:i≠id:=fun e=>by subst e; rw [hi] at hid; cases hid
  exact⟨by simp [upP,Ne.symm e],n,cs,by rw [Gs,if_neg e]; exact hid⟩
 vec:=fun id t k ver xs hid=>by
  have e:i≠id:=fun e=>by subst e; rw [hi] at hid; cases hid
  refine⟨ver,xs,by rw [Gs,if_neg e]; exact hid,Kn,fun _=>⟨rfl,by simp [upP,Ne.symm e],fun b hb=>G5a (Qo w o (hbnd id b (by rw [hid]; rfl) hb))⟩⟩
 spare:=fun id t k ver hw hid=>by
  have e:i≠id:=fun e=>by subst e; rw [hi] at hid; cases hid
  refine⟨ver,hw,by rw [Gs,if_neg e]; exact hid,Kn,fun _=>⟨rfl,by simp [upP,Ne.symm e],fun b hb=>Qo w o (hbnd id b (by rw [hid]; rfl) hb)⟩⟩

theorem Sat.alloc {i:Nat} {lo:Jt} (hsat:Sat w β L) (hi:lk L i=none) (o:Obj)
  (ho:∀ (_:Step w β L (w.alloc o) (upP β i (some w.heap.size)) ((i,lo)::L)),Gd9 (w.alloc o) (upP β i (some w.heap.size)) ((i,lo)::L) (some w.heap.size) lo) :
  Sat (w.alloc o) (upP β i (some w.heap.size)) ((i,lo)::L):=by
 have hs:=Step.alloc (lo:=lo) hi hsat.bnd o
 refine⟨fun b i h=>by have:=hsat.hid b i h; simp; omega,fun id b hid hb=>?_,fun id b j hid hb h=>?_,fun id id' b h1 h2 h3 h4=>?_,fun id ob hid=>?_⟩
 ·rw [Gs] at hid
  by_cases e:i=id
  ·subst e; simp [upP] at hb; simp; omega
  ·rw [if_neg e] at hid
   simp only [upP,if_neg (Ne.symm e)] at hb
   have:=hsat.bnd id b hid hb
   simp; omega
 ·rw [Gs] at hid
  by_cases e:i=id
  ·subst e; simp [upP] at hb; have:=hsat.hid b j h; omega
  ·rw [if_neg e] at hid
   simp only [upP,if_neg (Ne.symm e)] at hb
   exact hsat.apart id b j hid hb h
 ·rw [Gs] at h1 h2
  by_cases e:i=id
  ·by_cases e':i=id'
   ·rw [← e,e']
   ·rw [if_neg e'] at h2
    subst e
    simp only [upP,if_neg (Ne.symm e')] at h4
    simp [upP] at h3
    have:=hsat.bnd id' b h2 h4
    omega
  ·rw [if_neg e] at h1
   simp only [upP,if_neg (Ne.symm e)] at h3
   by_cases e':i=id'
   ·subst e'
    simp [upP] at h4
    have:=hsat.bnd id b h1 h3
    omega
   ·rw [if_neg e'] at h2
    simp only [upP,if_neg (Ne.symm e')] at h4
    exact hsat.inj id id' b h1 h2 h3 h4
 ·rw [Gs] at hid
  by_cases e:i=id
  ·subst e
   simp at hid; subst hid
   simpa [upP] using ho hs
  ·rw [if_neg e] at hid
   have h0:=hsat.obj id ob hid
   simp only [upP,if_neg (Ne.symm e)]
   exact h0.step hs (fun b hb=>Qo w o (hsat.bnd id b (by rw [hid]; rfl) hb))
end small

section mem
variable {P:Program} {o:Oper} {l:Fr} {L:Loc} {u:AV}

theorem G05.out {T k:Nat} (h:G05 P T k=true):∃ i z,P.info? T=some i∧i.zero=some z∧z.cells.size=k:=by
 unfold G05 at h
 split at h
 ·rename_i i hi
  split at h
  ·rename_i z hz; exact⟨i,z,hi,hz,by simpa using h⟩
  ·cases h
 ·cases h

theorem Jn (i:Nat) {T:Nat} (k:Nat) (hz:G05 P T k=true) (ho:o.op=.alloc T:=by rfl) (hi:lk L i=none:=by rfl) :
  H5 P o l L (Is (.ptr i 0) ((i,.box T (List.replicate k .junk))::L)):=by
 intro a w β K Q hsat hf hK
 obtain⟨inf,z,h1,h2,h3⟩:=G05.out hz
 unfold Oper.wp
 have hr:(execOp a.eval o).run P w=.ok (.value (.pointer (some ⟨w.heap.size,0,none⟩))) (w.alloc (.cells z.cells T)):=by
  simp [execOp,ho,Instr.alloc,zeroValue,typeInfo,h1,h2,newVar,newRow]
 rw [hr]
 refine hK _ _ _ _ (upP β i (some w.heap.size)) ⟨rfl,rfl⟩ (hsat.alloc hi _ (fun hs=>⟨_,rfl,z.cells,heap_alloc_new w _,by simp [h3],fun j u v hu _=>?_⟩)) (Step.alloc hi hsat.bnd _) (.ptr (t:=T) (by simp [Gs]; rfl) (by simp [upP]))
 have:u=.junk:=by
  have:=Kk hu
  exact List.eq_of_mem_replicate this
 subst this
 exact .junk

theorem J7 (i:Nat) {T:Nat} {x:Operand} {cs:List AV} (ho:o.op=.box T x:=by rfl) (hu:ev l x=u:=by rfl) (hx:u.cells=cs:=by rfl) (hc:u.flatOk=true:=by rfl) (hi:lk L i=none:=by rfl) :
  H5 P o l L (Is (.ptr i 0) ((i,.box T cs)::L)):=by
 subst hu
 intro a w β K Q hsat hf hK
 subst hx
 unfold Oper.wp
 have hr:(execOp a.eval o).run P w=.ok (.value (.pointer (some ⟨w.heap.size,0,none⟩))) (w.alloc (.cells (a.eval x).cells T)):=by
  simp [execOp,ho,Instr.box,newVar,newRow]
 rw [hr]
 obtain⟨h1,h2,_⟩:=(hf.ev x).cells hc
 exact hK _ _ _ _ (upP β i (some w.heap.size)) ⟨rfl,rfl⟩ (hsat.alloc hi _ (fun hs=>⟨_,rfl,_,heap_alloc_new w _,h1,fun j u v hu hv=>(h2 j u v hu hv).step hs⟩)) (Step.alloc hi hsat.bnd _) (.ptr (t:=T) (by simp [Gs]; rfl) (by simp [upP]))

/-! ### A store -/
theorem Step.set {w:World} {β:Hd} {L:Loc} {i b:Nat} {t:TypeId} {cs cs':List AV} (hsat:Sat w β L) (hi:lk L i=some (.box t cs)) (hb:β i=some b) (vs:Array Value) :
  Step w β L (w.setRow b vs) β ((i,.box t cs')::L) where
 os:=rfl
 tape:=rfl
 output:=⟨rfl,Kn⟩
 size:=by simp
 hid:=fun _ _ _=>Iff.rfl
 stab:=fun b' j hs=>by
  have hne:b'≠b:=fun e=>by subst e; exact hs.kept i _ hi hb
  refine⟨⟨by simpa using hs.1,hs.seen,fun id o hid hid'=>?_⟩,World.cell?_of_block (w:=w) (setRow_other w b b' vs hne)⟩
  rw [Gs] at hid
  by_cases e:i=id
  ·subst e; rw [hb] at hid'; exact absurd (Kj hid') (Ne.symm hne)
  ·rw [if_neg e] at hid; exact hs.kept id o hid hid'
 far:=fun b' hlt hf=>by
  have hne:b'≠b:=fun e=>by subst e; exact hf i (by rw [hi]; rfl) hb
  refine⟨setRow_other w b b' vs hne,fun id hid=>?_⟩
  rw [Gs] at hid
  by_cases e:i=id
  ·subst e; rw [hb]; exact fun e=>hne (Kj e).symm
  ·rw [if_neg e] at hid; exact hf id hid
 box:=fun id t' cs'' hid=>by
  refine⟨rfl,?_⟩
  rw [Gs]
  by_cases e:i=id
  ·subst e; rw [hi] at hid; cases hid; exact⟨cs',by simp⟩
  ·exact⟨cs'',by rw [if_neg e]; exact hid⟩
 map:=fun id t' es hid=>by
  refine⟨rfl,es,?_⟩
  rw [Gs,if_neg (fun e=>by subst e; rw [hi] at hid; cases hid)]; exact hid
 iter:=fun id t' n es hid=>by
  refine⟨rfl,n,es,?_⟩
  rw [Gs,if_neg (fun e=>by subst e; rw [hi] at hid; cases hid)]; exact hid
 vec:=fun id t' k ver xs hid=>by
  have e:i≠id:=fun e=>by subst e; rw [hi] at hid; cases hid
  refine⟨ver,xs,by rw [Gs,if_neg e]; exact hid,Kn,fun _=>⟨rfl,rfl,fun b' hb'=>G5a (setRow_other w b b' vs (fun e'=>?_))⟩⟩
  subst e'
  exact e (hsat.inj i id b' (by rw [hi]; rfl) (by rw [hid]; rfl) hb hb')
 spare:=fun id t' k ver hw hid=>by
  have e:i≠id:=fun e=>by subst e; rw [hi] at hid; cases hid
  refine⟨ver,hw,by rw [Gs,if_neg e]; exact hid,Kn,fun _=>⟨rfl,rfl,fun b' hb'=>setRow_other w b b' vs (fun e'=>?_)⟩⟩
  subst e'
  exact e (hsat.inj i id b' (by rw [hi]; rfl) (by rw [hid]; rfl) hb hb')

theorem Sat.set {w:World} {β:Hd} {L:Loc} {i b:Nat} {t:TypeId} {cs cs':List AV} (hsat:Sat w β L) (hi:lk L i=some (.box t cs)) (hb:β i=some b) {old:Array Value} (hold:w.heap[b]? = some (.cells old t (0,0))) (vs:Array Value)
  (hl:vs.size=cs'.length) (h:∀ (j:Nat) u v,cs'[j]? = some u→vs[j]? = some v→V w β L u v):Sat (w.setRow b vs) β ((i,.box t cs')::L):=by
 have hs:=Step.set (cs':=cs') hsat hi hb vs
 have hsome:∀ id,(lk ((i,Jt.box t cs')::L) id).isSome=true→(lk L id).isSome=true:=fun id h=>by
  rw [Gs] at h
  by_cases e:i=id
  ·subst e; rw [hi]; rfl
  ·rwa [if_neg e] at h
 refine⟨fun b i h=>by simpa using hsat.hid b i h,fun id b' hid hb'=>by simpa using hsat.bnd id b' (hsome id hid) hb',fun id b' j hid hb'=>hsat.apart id b' j (hsome id hid) hb',fun id id' b' h1 h2=>hsat.inj id id' b' (hsome id h1) (hsome id' h2),fun id ob hid=>?_⟩
 rw [Gs] at hid
 by_cases e:i=id
 ·subst e
  simp at hid; subst hid
  exact⟨b,hb,vs,setRow_heap w b old vs t (0,0) hold,hl,fun j u v hu hv=>(h j u v hu hv).step hs⟩
 ·rw [if_neg e] at hid
  refine(hsat.obj id ob hid).step hs (fun b' hb'=>setRow_other w b b' vs (fun e'=>?_))
  subst e'
  exact e (hsat.inj i id b' (by rw [hi]; rfl) (by rw [hid]; rfl) hb hb')

theorem H87 {T k b off:Nat} {t:TypeId} {old:Array Value} {v:Value} (hT:Zf P T k=true) (hv:v.cells.size=k) (h1:∀ x∈v.cells.toList,x.oneCell'=true) {w:World}
  (hold:w.heap[b]? = some (.cells old t (0,0))) (hfit:off+k≤old.size) :
  (Instr.storeAt T (.pointer (some ⟨b,off,none⟩)) v).run P w=.ok () (w.setRow b (old.toList.take off++v.cells.toList++old.toList.drop (off+k)).toArray):=by
 have:=run_storeCells_at P b off t v.cells.toList 0 old w hold (by simpa [hv] using hfit) h1
 simp only [Nat.add_zero,Array.length_toList,hv] at this
 simp [Instr.storeAt,Instr.sureAddr,storeVar,Qw hT,hv,this]

theorem Q9a {w:World} {β:Hd} {L:Loc} {off k:Nat} {cs us:List AV} {old ws:List Value} (hol:old.length=cs.length) (hwl:ws.length=us.length) (hk:us.length=k) (hfit:off+k≤cs.length)
  (h:∀ (j:Nat) u v,cs[j]? = some u→old[j]? = some v→V w β L u v) (h':∀ (j:Nat) u v,us[j]? = some u→ws[j]? = some v→V w β L u v) :
  ∀ (j:Nat) u v,(cs.take off++us++cs.drop (off+k))[j]? = some u→(old.take off++ws++old.drop (off+k))[j]? = some v→V w β L u v:=by
 intro j u v hu hv
 rcases Nat.lt_or_ge j off with h1 | h1
 ·rw [List.append_assoc,List.getElem?_append_left (by simp; omega),List.getElem?_take,if_pos h1] at hu hv
  exact h j u v hu hv
 ·rcases Nat.lt_or_ge j (off+k) with h2 | h2
  ·rw [List.getElem?_append_left (by simp; omega),List.getElem?_append_right (by simp; omega)] at hu hv
   simp only [List.length_take] at hu hv
   rw [Nat.min_eq_left (by omega)] at hu hv
   exact h' _ u v hu hv
  ·rw [List.getElem?_append_right (by simp; omega)] at hu hv
   simp only [Ko,List.length_take,List.getElem?_drop] at hu hv
   rw [Nat.min_eq_left (by omega)] at hu hv
   rw [show off+k+(j - (off+us.length))=j by omega] at hu
   rw [show off+k+(j - (off+ws.length))=j by omega] at hv
   exact h j u v hu hv

def J28:Nat→List AV→List AV→Option (List AV)
 | _,[],cs=>some cs
 | 0,u::us,_::cs=>match J28 0 us cs with
  | some s=>some (u::s)
  | none=>none
 | n+1,us,c::cs=>match J28 n us cs with
  | some s=>some (c::s)
  | none=>none
 | _,_::_,[]=>none

theorem Jed:∀ {off:Nat} {us cs ds:List AV},J28 off us cs=some ds→us≠[]→ds=cs.take off++us++cs.drop (off+us.length)∧off+us.length≤cs.length
 | off,[],cs,ds,h,hne=>absurd rfl hne
 | 0,u::us,[],ds,h,_=>by simp [J28] at h
 | n+1,u::us,[],ds,h,_=>by simp [J28] at h
 | 0,u::us,c::cs,ds,h,_=>by
  simp only [J28] at h
  cases hr:J28 0 us cs with
  | none=>rw [hr] at h; cases h
  | some s=>
   rw [hr] at h
   simp at h; subst h
   by_cases e:us=[]
   ·subst e; simp [J28] at hr; subst hr; simp
   ·obtain⟨h1,h2⟩:=Jed hr e
    subst h1
    simp at h2 ⊢
    exact h2
 | n+1,u::us,c::cs,ds,h,hne=>by
  simp only [J28] at h
  cases hr:J28 n (u::us) cs with
  | none=>rw [hr] at h; cases h
  | some s=>
   rw [hr] at h
   simp at h; subst h
   obtain⟨h1,h2⟩:=Jed hr (by simp)
   subst h1
   refine⟨?_,by simp at h2 ⊢; omega⟩
   rw [show n+1+(u::us).length=(n+(u::us).length)+1 by omega,List.drop_succ_cons,List.take_succ_cons]
   simp

theorem J5 {x y:Operand} {T i off k:Nat} {t:TypeId} {cs ds:List AV} (hT:Zf P T k=true) (ho:o.op=.store T x y:=by rfl) (hu:ev l y=u:=by rfl) (hx:ev l x=.ptr i off:=by rfl) (hi:lk L i=some (.box t cs):=by rfl)
  (hc:u.flatOk=true:=by rfl) (hds:J28 off u.cells cs=some ds:=by rfl) (hk:u.cells.length=k:=by rfl) (hpos:Nat.blt 0 k=true:=by rfl) :
  H5 P o l L (Is .junk ((i,.box t ds)::L)):=by
 subst hu
 have hne:(ev l y).cells≠[]:=fun e=>by rw [e] at hk; subst hk; cases hpos
 obtain⟨rfl,hfit0⟩:=Jed hds hne
 rw [hk] at hfit0
 have hfit':off+k≤cs.length:=hfit0
 rw [hk]
 intro a w β K Q hsat hf hK
 have h1:=hf.ev x
 rw [hx] at h1
 obtain⟨b,hb,hax⟩:=h1.inv_ptr
 obtain⟨old,ho1,ho2,ho3⟩:=J01 hsat hi hb
 obtain⟨c1,c2,c3⟩:=(hf.ev y).cells hc
 have hr:=H87 (P:=P) (off:=off) hT (c1.trans hk) c3 ho1 (by omega)
 unfold Oper.wp
 have hr':(execOp a.eval o).run P w=.ok .skip (w.setRow b (old.toList.take off++(a.eval y).cells.toList++old.toList.drop (off+k)).toArray):=by
  simp [execOp,ho,hax,hr]
 rw [hr']
 refine hK _ _ _ _ β ⟨rfl,rfl⟩ (hsat.set hi hb ho1 _ ?_ ?_) (Step.set hsat hi hb _) .junk
 ·simp [c1]; omega
 ·intro j u v hu hv
  exact Q9a (by rw [Array.length_toList]; exact ho2) (by rw [Array.length_toList]; exact c1) hk hfit' (fun j u v hu hv=>ho3 j u v hu (by simpa using hv)) (fun j u v hu hv=>c2 j u v hu (by simpa using hv)) j u v hu (by simpa using hv)

/-! ### Slices: lengths and elements -/
theorem D.len {w:World} {S:Nat→Nat→Prop} {k:Nat} {xs:List AV} {x:Value} (h:D w S (.list k xs) x):∃ ao cap,x=.slice ao xs.length cap∧xs.length≤cap∧cap≤maxLen:=by
 cases h with
 | nil h=>exact⟨_,_,rfl,by simp,h⟩
 | list vals hcap hm=>exact⟨_,_,rfl,hcap,hm⟩

theorem G60:∀ (xs ys:List AV),flat (xs++ys)=flat xs++flat ys
 | [],_=>rfl
 | x::xs,ys=>by simp [flat,G60 xs ys]
theorem D.lst_list {w:World} {S:Nat→Nat→Prop} {k:Nat} {xs ys:List AV} {v:Value} (h:D w S (.lst k xs ys) v):D w S (.list k xs) v:=by
 cases h with
 | lnil h=>exact .nil h
 | lst vals hcap hm hk hS h=>
  rw [G60] at hS h
  exact .list vals (by omega) hm (fun x hx=>hk x (Kt.2 (.inl hx))) (fun j hj=>hS j (by rw [Ko]; omega)) (fun j u hu=>h j u (by rw [List.getElem?_append_left (Kh hu).1]; exact hu))
def Qj:AV→Option (Nat×List AV)
 | .list k xs=>some (k,xs)
 | .lst k xs _=>some (k,xs)
 | .own _ _ k xs=>some (k,xs)
 | .sc (.slice none 0 0)=>some (1,[])
 | _=>none

theorem V.Qj {w:World} {β:Hd} {L:Loc} {u:AV} {k:Nat} {xs:List AV} {x:Value} (h:V w β L u x) (ha:Qj u=some (k,xs)):D w (Qd w β L) (.list k xs) x:=by
 cases u with
 | list k' xs'=>simp [Go.Proofs.YthcpolfodgjekaaGreat.Qj] at ha; obtain⟨rfl,rfl⟩:=ha; exact h.inv_list
 | lst k' xs' ys'=>
  simp [Go.Proofs.YthcpolfodgjekaaGreat.Qj] at ha; obtain⟨rfl,rfl⟩:=ha
  cases h with
  | data h=>exact h.lst_list
 | own i ver k' xs'=>
  simp [Go.Proofs.YthcpolfodgjekaaGreat.Qj] at ha; obtain⟨rfl,rfl⟩:=ha
  cases h with
  | data h=>cases h
  | own hd _=>exact hd
 | sc v=>
  have:=h.inv_sc
  subst this
  cases x with
  | slice ao n c=>
   cases ao with
   | none=>
    cases n with
    | zero=>
     cases c with
     | zero=>simp [Go.Proofs.YthcpolfodgjekaaGreat.Qj] at ha; obtain⟨rfl,rfl⟩:=ha; exact .nil (Nat.zero_le _)
     | succ c=>simp [Go.Proofs.YthcpolfodgjekaaGreat.Qj] at ha
    | succ n=>simp [Go.Proofs.YthcpolfodgjekaaGreat.Qj] at ha
   | some a=>simp [Go.Proofs.YthcpolfodgjekaaGreat.Qj] at ha
  | _=>simp [Go.Proofs.YthcpolfodgjekaaGreat.Qj] at ha
 | _=>simp [Go.Proofs.YthcpolfodgjekaaGreat.Qj] at ha

theorem Y3f {x:Operand} {T E k k':Nat} {xs:List AV} (hT:sliceB P T E k'=true) (ho:o.op=.call { callee:=.builtin .len,args:=#[x],argTypes:=#[T] }:=by rfl) (hx:Qj (ev l x)=some (k,xs):=by rfl):H5 P o l L (Is (.sc (.int .i64 xs.length)) L):=
 Hx fun a w β _ hf=>by
  obtain⟨ao,cap,h1,_⟩:=((hf.ev x).Qj hx).len
  exact⟨.int .i64 xs.length,by simp [execOp,ho,resolve,invoke,builtin,Builtin.len_,underlying,(sliceB.out hT).1,h1,goInt],.sc⟩

theorem Y91 {N:Cfg} {Q:Post} {ops:Array Oper} {rest:List Oper} {d:Nat} {x:Operand} {T E k k':Nat} {xs:List AV} (hT:sliceB P T E k'=true) (hk:xs.length≤maxLen→JL P N ops rest Q ((d,.sc (.int .i64 xs.length))::l) L) (ho:o.op=.call { callee:=.builtin .len,args:=#[x],argTypes:=#[T] }:=by rfl) (hx:Qj (ev l x)=some (k,xs):=by rfl) (hg:o.guard=none:=by rfl) (hd:o.dst=some d:=by rfl) (hn:Nat.blt d N.n=true:=by rfl):JL P N ops (o::rest) Q l L:=by
 intro n w0 β0 L0 a w β hs
 obtain⟨ao,cap,h1,h2,h3⟩:=((hs.frame.ev x).Qj hx).len
 exact G0 (Y3f hT ho hx) (hk (Nat.le_trans h2 h3)) hg hd hn (by unfold G77; rw [ho]) n w0 β0 L0 a w β hs

theorem Jm {k:Nat}:∀ {xs:List AV},(∀ x∈xs,x.cells.length=k)→(flat xs).length=xs.length*k
 | [],_=>by simp [flat]
 | x::r,h=>by
  simp only [flat,Ko,List.length_cons,h x (by simp),Jm (xs:=r) (fun y hy=>h y (by simp [hy]))]
  rw [Nat.add_mul]; omega


theorem Qc8 {k:Nat}:∀ {xs:List AV},(∀ x∈xs,x.cells.length=k)→∀ {i:Nat} {y:AV},xs[i]? = some y→∀ j,j < k→(flat xs)[i*k+j]? = y.cells[j]?
 | [],_,i,y,hy,_,_=>by simp at hy
 | x::r,h,i,y,hy,j,hj=>by
  have hx:=h x (by simp)
  cases i with
  | zero=>
   simp at hy; subst hy
   simp only [flat,Nat.zero_mul,Nat.zero_add]
   rw [List.getElem?_append_left (by omega)]
  | succ i=>
   simp at hy
   simp only [flat]
   rw [List.getElem?_append_right (by rw [hx,Nat.add_mul]; omega),hx]
   rw [show (i+1)*k+j - k=i*k+j by rw [Nat.add_mul]; omega]
   exact Qc8 (fun z hz=>h z (by simp [hz])) hy j hj

theorem D.elem {w:World} {S:Nat→Nat→Prop} {k:Nat} {xs:List AV} {b off n cap i:Nat} {y:AV} (h:D w S (.list k xs) (.slice (some ⟨b,off,none⟩) n cap)) (hy:xs[i]? = some y) :
  D w S (.dptr y.cells) (.pointer (some ⟨b,off+i*k,none⟩)):=by
 cases h with
 | nil=>simp at hy
 | list vals hcap hm hk hS h=>
  have hi:i < xs.length:=by
   rcases Nat.lt_or_ge i xs.length with h | h
   ·exact h
   ·simp [List.getElem?_eq_none h] at hy
  have hyk:y.cells.length=k:=hk y (Kk hy)
  refine .dptr (fun j=>vals (i*k+j)) (fun j hj=>?_) (fun j u hu=>?_)
  ·have:=hS (i*k+j) (by
    rw [Jm hk]
    have:(i+1)*k≤xs.length*k:=Nat.mul_le_mul_right k hi
    rw [Nat.add_mul] at this; omega)
   rw [show off+i*k+j=off+(i*k+j) by omega]; exact this
  ·have hj:j < k:=by
    rcases Nat.lt_or_ge j k with h | h
    ·exact h
    ·simp [List.getElem?_eq_none (show y.cells.length≤j by omega)] at hu
   exact h _ u ((Qc8 hk hy j hj).trans hu)

theorem D.addr {w:World} {S:Nat→Nat→Prop} {k i:Nat} {xs:List AV} {x:Value} {y:AV} (h:D w S (.list k xs) x) (hy:xs[i]? = some y) :
  ∃ b off cap,x=.slice (some ⟨b,off,none⟩) xs.length cap:=by
 cases h with
 | nil=>simp at hy
 | list=>exact⟨_,_,_,rfl⟩

theorem Y6c {x ix:Operand} {T E k:Nat} {kd:IntKind} {n:Int} {m:Nat} {xs:List AV} {y:AV} (ho:o.op=.indexAddr T x ix) (hx:Qj (ev l x)=some (k,xs)) (hi:ev l ix=.sc (.int kd n)) (hT:sliceB P T E k=true) (hy:xs[m]? = some y) (hm:n=(m:Int)):H5 P o l L (Is (.dptr y.cells) L):=
 Hx fun a w β _ hf=>by
  subst hm
  have h1:=(hf.ev x).Qj hx
  have h2:=hf.ev ix
  rw [hi] at h2
  obtain⟨b,off,cap,hax⟩:=h1.addr hy
  rw [hax] at h1
  have hlt:m < xs.length:=by
   rcases Nat.lt_or_ge m xs.length with h | h
   ·exact h
   ·simp [List.getElem?_eq_none h] at hy
  have hr:=Qw (sliceB.out hT).2 w
  refine⟨.pointer (some ⟨b,off+m*k,none⟩),?_,.data (h1.elem hy)⟩
  simp [execOp,ho,Instr.indexAt,h2.inv_sc,asIntOf,underlying,(sliceB.out hT).1,hax,hlt,hr,Addr.add_lit]
end mem

/-! ### Guarded operations -/
inductive Un (c:Bool):AV→AV→Prop
 | all {c':Bool} {y:AV} (h:c=true→c'=true):Un c (.opt c' y) y
 | part {e:Bool} {y:AV}:Un c (.opt (c&&e) y) (.opt e y)

def J37 (c:Bool) (l:Fr):Fr→Prop
 | []=>True
 | (t,y)::r=>Un c (look l t) y∧J37 c l r

theorem R2a (us l:Fr) (t:Nat):(∃ y,(t,y)∈us∧look (us++l) t=y)∨look (us++l) t=look l t:=by
 induction us with
 | nil=>exact .inr rfl
 | cons p r ih=>
  obtain⟨i,y⟩:=p
  by_cases e:i=t
  ·subst e; exact .inl ⟨y,by simp,by simp [look]⟩
  ·have hb:Nat.beq i t=false:=by
    cases hb:Nat.beq i t with
    | false=>rfl
    | true=>exact absurd (Nat.eq_of_beq_eq_true hb) e
   simp only [List.cons_append,look,hb,cond_false]
   rcases ih with ⟨y',h1,h2⟩ | h
   ·exact .inl ⟨y',List.mem_cons_of_mem _ h1,h2⟩
   ·exact .inr h

theorem J37.mem {c:Bool} {l us:Fr} (h:J37 c l us) {t:Nat} {y:AV} (hm:(t,y)∈us):Un c (look l t) y:=by
 induction us with
 | nil=>cases hm
 | cons p r ih=>
  obtain⟨i,z⟩:=p
  rcases Kw.1 hm with e | hm
  ·cases e; exact h.1
  ·exact ih h.2 hm

theorem Qe.un {a:Act} {w:World} {β:Hd} {L:Loc} {l us:Fr} (h:Qe a w β L l) (hu:J37 true l us):Qe a w β L (us++l):=by
 refine⟨fun t=>?_⟩
 rcases R2a us l t with ⟨y,hm,e⟩ | e
 ·rw [e]
  have hv:=h.tmp t
  have hun:=hu.mem hm
  generalize look l t=z at hun hv
  cases hun with
  | all hc=>
   rw [hc rfl] at hv
   exact hv.inv_opt
  | part=>simpa using hv
 ·rw [e]; exact h.tmp t

section guards
variable {P:Program} {N:Cfg} {Q:Post} {l:Fr} {L:Loc} {ops:Array Oper} {o:Oper} {rest:List Oper} {u:AV}

inductive Hd9:AV→Bool→Bool→Prop
 | sct {b:Bool}:Hd9 (.sc (.bool b)) true b
 | scf {b:Bool}:Hd9 (.sc (.bool b)) false (!b)
 | optt {c b:Bool}:Hd9 (.opt c (.sc (.bool b))) true (c&&b)
 | optf {c b:Bool}:Hd9 (.opt c (.sc (.bool b))) false (c&&!b)

theorem Hd9.wanted {a:Act} {w:World} {β:Hd} {j:Nat} {dj:Tmp} {want c:Bool} (hf:Qe a w β L l) (hlt:dj < a.tmps.size) (hg:o.guard=some (j,want)) (hj:(ops[j]?).bind (·.dst)=some dj) (h:Hd9 (look l dj) want c) :
  Region.wanted o (yielded ops a.tmps)=c:=by
 have hv:=hf.tmp dj
 rw [Array.getD_eq_getD_getElem?,Array.getElem?_eq_getElem hlt,Option.getD_some] at hv
 generalize look l dj=z at h hv
 cases h with
 | @sct=>
  have:=hv.inv_sc
  simp only [Region.wanted,hg,yielded,hj,Option.bind_some,Array.getElem?_eq_getElem hlt,this]
  cases c <;> rfl
 | @scf b=>
  have:=hv.inv_sc
  simp only [Region.wanted,hg,yielded,hj,Option.bind_some,Array.getElem?_eq_getElem hlt,this]
  cases b <;> rfl
 | @optt c' b=>
  cases c' with
  | true=>
   have:=(hv.inv_opt).inv_sc
   simp only [Region.wanted,hg,yielded,hj,Option.bind_some,Array.getElem?_eq_getElem hlt,this]
   cases b <;> rfl
  | false=>
   have:=hv.inv_opt0
   simp only [Region.wanted,hg,yielded,hj,Option.bind_some,Array.getElem?_eq_getElem hlt,this,undef]
   rfl
 | @optf c' b=>
  cases c' with
  | true=>
   have:=(hv.inv_opt).inv_sc
   simp only [Region.wanted,hg,yielded,hj,Option.bind_some,Array.getElem?_eq_getElem hlt,this]
   cases b <;> rfl
  | false=>
   have:=hv.inv_opt0
   simp only [Region.wanted,hg,yielded,hj,Option.bind_some,Array.getElem?_eq_getElem hlt,this,undef]
   rfl

theorem G9 {j dj d:Nat} {want c:Bool} {gv:AV} (us:Fr) (hg:o.guard=some (j,want)) (hj:(ops[j]?).bind (·.dst)=some dj) (hgv:look l dj=gv) (hgd:Hd9 gv want c) (hus:J37 c l us) (h:c=true→H5 P o (us++l) L (Is u L)) (hk:JL P N ops rest Q ((d,.opt c u)::l) L)
  (hjn:Nat.blt dj N.n=true:=by rfl) (hd:o.dst=some d:=by rfl) (hn:Nat.blt d N.n=true:=by rfl) (hnd:G77 o=true:=by rfl) :
  JL P N ops (o::rest) Q l L:=by
 subst hgv
 intro n w0 β0 L0 a w β hs
 have hw:=hgd.wanted (ops:=ops) hs.frame (Nat.lt_of_lt_of_le (by simpa [Nat.blt_eq] using hjn) hs.size) hg hj
 have hlt:d < a.tmps.size:=Nat.lt_of_lt_of_le (by simpa [Nat.blt_eq] using hn) hs.size
 refine wpListIn_step fun K hK=>?_
 rw [hw]
 cases c with
 | true=>
  rw [if_pos rfl]
  refine H4f hnd (h rfl a w β K _ hs.sat (hs.frame.un hus) ?_)
  intro u' L' v w' β' hr hsat hst hv
  obtain⟨rfl,rfl⟩:=hr
  rw [hd]
  exact hK _ _ (hk n w0 β0 L0 _ w' β' ⟨hsat,hs.step.trans hst,(hs.frame.step hst).put hlt (.opt (fun _=>hv) (fun e=>by cases e)),by rw [Act.put_size]; exact hs.size,hs.base,by rw [Act.put_defers']; exact hs.defers.step hst⟩)
 | false=>
  rw [if_neg (by simp),hd]
  exact⟨fun _ _=>trivial,hK _ _ (hk n w0 β0 L0 _ w β ⟨hs.sat,hs.step,hs.frame.put hlt (.opt (fun e=>by cases e) (fun _=>rfl)),by rw [Act.put_size]; exact hs.size,hs.base,by rw [Act.put_defers']; exact hs.defers⟩)⟩
def Y83:AV→AV
 | .opt _ y=>y
 | v=>v
def J94 (l:Fr):List Nat→Fr
 | []=>[]
 | t::r=>(t,Y83 (look l t))::J94 l r
def grd (ops:Array Oper) (l:Fr) (o:Oper):Option (Bool×AV):=o.guard.bind fun g=>((ops[g.1]?).bind (·.dst)).map fun d=>(g.2,look l d)
def Y55 (ops:Array Oper) (n:Nat) (o:Oper):Bool:=match o.guard.bind fun g=>(ops[g.1]?).bind (·.dst) with
 | some d=>Nat.blt d n
 | none=>true
theorem Rbf {ops:Array Oper} {l:Fr} {o:Oper} {n:Nat} {want:Bool} {gv:AV} (h:grd ops l o=some (want,gv)) (hn:Y55 ops n o=true):∃ j d,o.guard=some (j,want)∧(ops[j]?).bind (·.dst)=some d∧look l d=gv∧Nat.blt d n=true:=by
 unfold grd at h
 unfold Y55 at hn
 obtain⟨g,h1,h2⟩:=Option.bind_eq_some_iff.1 h
 obtain⟨d,h3,h4⟩:=Option.map_eq_some_iff.1 h2
 obtain⟨j,w⟩:=g
 cases h4
 refine⟨j,d,h1,h3,rfl,?_⟩
 rw [h1] at hn
 simp only [Option.bind_some] at hn
 rw [h3] at hn
 exact hn
theorem Ua {c:Bool} {y:AV}:Un c (.opt c y) y:=.all id
theorem JLo (v:AV) (ts:List Nat) {d:Nat} {want c:Bool} {gv:AV} (hg:grd ops l o=some (want,gv)) (hgd:Hd9 gv want c) (hus:J37 c l (J94 l ts)) (h:c=true→H5 P o (J94 l ts++l) L (Is v L)) (hd:o.dst=some d) (hk:JL P N ops rest Q ((d,.opt c v)::l) L)
  (hjn:Y55 ops N.n o=true:=by rfl) (hn:Nat.blt d N.n=true:=by rfl) (hnd:G77 o=true:=by rfl):JL P N ops (o::rest) Q l L:=by
 obtain⟨j,dj,h1,h2,h3,h4⟩:=Rbf hg hjn
 exact G9 (J94 l ts) h1 h2 h3 hgd hus h hk h4 hd hn hnd
end guards

/-! ### Forgetting -/
mutual
def AV.refs (ok:Nat→Bool):AV→Bool
 | .ptr i _=>ok i
 | .own i _ _ _=>ok i
 | .ms i _ _ _=>ok i
 | .mp i=>ok i
 | .it i=>ok i
 | .vec i _ _ _=>ok i
 | .vptr i _ _ _=>ok i
 | .vsl i _ _ _ _=>ok i
 | .vcap i _ _ _ _=>ok i
 | .nst i _ _ _ last=>ok i&&last.refs ok
 | .nptr i _ _ u=>ok i&&u.refs ok
 | .agg cs=>G2c ok cs
 | .tup cs=>G2c ok cs
 | .fn _ cs=>G2c ok cs
 | .bfn _ cs=>G2c ok cs
 | .opt _ x=>x.refs ok
 | _=>true
def G2c (ok:Nat→Bool):List AV→Bool
 | []=>true
 | x::r=>x.refs ok&&G2c ok r
end

theorem G37 {ok:Nat→Bool}:∀ {cs:List AV},G2c ok cs=true→∀ u∈cs,u.refs ok=true
 | x::r,h,u,hu=>by
  simp only [G2c,Kq] at h
  rcases Kw.1 hu with rfl | hu
  ·exact h.1
  ·exact G37 h.2 u hu

inductive Conv (ok:Nat→Bool):AV→AV→Prop
 | same {u:AV} (h:u.refs ok=true):Conv ok u u
 | junk {u:AV}:Conv ok u .junk
 | list {u:AV} {k:Nat} {xs:List AV} (h:Qj u=some (k,xs)):Conv ok u (.list k xs)
 | nil {k:Nat}:Conv ok (.sc (.slice none 0 0)) (.list k [])

theorem Conv.eq {ok:Nat→Bool} {u u':AV} (h:u=u') (hr:u'.refs ok=true):Conv ok u u':=by subst h; exact .same hr

def Jt.like:Jt→Jt→Prop
 | .box t _,.box t' _=>t=t'
 | .spare t k ver hw,.spare t' k' ver' hw'=>t=t'∧k=k'∧ver=ver'∧hw=hw'
 | .map t _,.map t' _=>t=t'
 | .vec t k ver xs,.vec t' k' ver' xs'=>t=t'∧k=k'∧ver=ver'∧xs.length=xs'.length
 | .iter m _ _,.iter m' _ _=>m=m'
 | _,_=>False

theorem Jt.like.keeps {o o':Jt} (h:o.like o') (i:Nat):o.keeps i ↔ o'.keeps i:=by
 cases o <;> cases o' <;> simp_all [Jt.like,Jt.keeps]

structure J5c (L L':Loc):Prop where
 like:∀ id o',lk L' id=some o'→∃ o,lk L id=some o∧o.like o'

theorem J5c.some {L L':Loc} (h:J5c L L') {id:Nat} (hs:(lk L' id).isSome=true):(lk L id).isSome=true:=by
 obtain⟨o',ho'⟩:=Option.isSome_iff_exists.1 hs
 obtain⟨o,ho,_⟩:=h.like id o' ho'
 rw [ho]; rfl

theorem J5c.stab {w:World} {β:Hd} {L L':Loc} (h:J5c L L') {b i:Nat} (hs:Qd w β L b i):Qd w β L' b i:=
 ⟨hs.lt,hs.seen,fun id o' hid hb=>by
  obtain⟨o,ho,hl⟩:=h.like id o' hid
  exact(hl.keeps i).1 (hs.kept id o ho hb)⟩

theorem V.drop {w:World} {β:Hd} {L L':Loc} (hd:J5c L L') {u:AV} {v:Value} (h:V w β L u v):u.refs (fun i=>(lk L' i).isSome)=true→V w β L' u v:=by
 have mono:∀ {u v},D w (Qd w β L) u v→D w (Qd w β L') u v:=fun h=>h.mono fun b i hs=>⟨hd.stab hs,rfl⟩
 have mem:∀ {cs:List AV},G2c (fun i=>(lk L' i).isSome) cs=true→∀ (j:Nat) u,cs[j]? = some u→u.refs (fun i=>(lk L' i).isSome)=true:=
  fun h j u hu=>G37 h u (Kk hu)
 induction h with
 | data h=>exact fun _=>.data (mono h)
 | agg hl _ ih=>exact fun hr=>.agg hl fun j u v hu hv=>ih j u v hu hv (mem (by simpa [AV.refs] using hr) j u hu)
 | tup hl _ ih=>exact fun hr=>.tup hl fun j u v hu hv=>ih j u v hu hv (mem (by simpa [AV.refs] using hr) j u hu)
 | fn hl _ ih=>exact fun hr=>.fn hl fun j u v hu hv=>ih j u v hu hv (mem (by simpa [AV.refs] using hr) j u hu)
 | bfn hl _ ih=>exact fun hr=>.bfn hl fun j u v hu hv=>ih j u v hu hv (mem (by simpa [AV.refs] using hr) j u hu)
 | opt _ h0 ih=>exact fun hr=>.opt (fun e=>ih e (by simpa [AV.refs] using hr)) h0
 | ptr hi h=>
  intro hr
  obtain⟨o',ho'⟩:=Option.isSome_iff_exists.1 (show (lk L' _).isSome=true by simpa [AV.refs] using hr)
  obtain⟨o,ho,hl⟩:=hd.like _ o' ho'
  rw [hi] at ho; cases ho
  cases o' <;> simp [Jt.like] at hl
  subst hl
  exact .ptr ho' h
 | ms hi h hn hm=>
  intro hr
  obtain⟨o',ho'⟩:=Option.isSome_iff_exists.1 (show (lk L' _).isSome=true by simpa [AV.refs] using hr)
  obtain⟨o,ho,hl⟩:=hd.like _ o' ho'
  rw [hi] at ho; cases ho
  cases o' <;> simp [Jt.like] at hl
  subst hl
  exact .ms ho' h hn hm
 | mp hi h=>
  intro hr
  obtain⟨o',ho'⟩:=Option.isSome_iff_exists.1 (show (lk L' _).isSome=true by simpa [AV.refs] using hr)
  obtain⟨o,ho,hl⟩:=hd.like _ o' ho'
  rw [hi] at ho; cases ho
  cases o' <;> simp [Jt.like] at hl
  subst hl
  exact .mp ho' h
 | it hi h=>
  intro hr
  obtain⟨o',ho'⟩:=Option.isSome_iff_exists.1 (show (lk L' _).isSome=true by simpa [AV.refs] using hr)
  obtain⟨o,ho,hl⟩:=hd.like _ o' ho'
  rw [hi] at ho; cases ho
  cases o' <;> simp [Jt.like] at hl
  subst hl
  exact .it ho' h
 | vptr hp hv=>
  intro hr
  obtain⟨t,k,ver',xs,hi,hle,hx⟩:=hp
  obtain⟨o',ho'⟩:=Option.isSome_iff_exists.1 (show (lk L' _).isSome=true by simpa [AV.refs] using hr)
  obtain⟨o,ho,hl⟩:=hd.like _ o' ho'
  rw [hi] at ho; cases ho
  cases o' <;> simp [Jt.like] at hl
  obtain⟨rfl,rfl,rfl,hl⟩:=hl
  exact .vptr ⟨t,k,ver',_,ho',hle,hx⟩ hv
 | vsl hp hv=>
  intro hr
  obtain⟨t,ver',xs,hi,hle,hx⟩:=hp
  obtain⟨o',ho'⟩:=Option.isSome_iff_exists.1 (show (lk L' _).isSome=true by simpa [AV.refs] using hr)
  obtain⟨o,ho,hl⟩:=hd.like _ o' ho'
  rw [hi] at ho; cases ho
  cases o' <;> simp [Jt.like] at hl
  obtain⟨rfl,rfl,rfl,hl⟩:=hl
  exact .vsl ⟨t,ver',_,ho',hle,fun e=>⟨by rw [← hl]; exact(hx e).1,(hx e).2⟩⟩ hv
 | vcap hp hv=>
  intro hr
  obtain⟨t,ver',xs,hi,hle,hx⟩:=hp
  obtain⟨o',ho'⟩:=Option.isSome_iff_exists.1 (show (lk L' _).isSome=true by simpa [AV.refs] using hr)
  obtain⟨o,ho,hl⟩:=hd.like _ o' ho'
  rw [hi] at ho; cases ho
  cases o' <;> simp [Jt.like] at hl
  obtain⟨rfl,rfl,rfl,hl⟩:=hl
  exact .vcap ⟨t,ver',_,ho',hle,hx⟩ hv
 | nst vs hi hle hr0 hpre _ hv ih=>
  intro hr
  simp only [AV.refs,Kq] at hr
  obtain⟨o',ho'⟩:=Option.isSome_iff_exists.1 hr.1
  obtain⟨o,ho,hl⟩:=hd.like _ o' ho'
  rw [hi] at ho; cases ho
  cases o' <;> simp [Jt.like] at hl
  obtain⟨rfl,rfl,rfl,rfl⟩:=hl
  exact .nst vs ho' hle hr0 (fun e j u x hu hx=>mono (hpre e j u x hu hx)) (fun x e h0 hx=>ih x e h0 hx hr.2) hv
 | nptr b vs hi hle hr0 _ hv ih=>
  intro hr
  simp only [AV.refs,Kq] at hr
  obtain⟨o',ho'⟩:=Option.isSome_iff_exists.1 hr.1
  obtain⟨o,ho,hl⟩:=hd.like _ o' ho'
  rw [hi] at ho; cases ho
  cases o' <;> simp [Jt.like] at hl
  obtain⟨rfl,rfl,rfl,rfl⟩:=hl
  exact .nptr b vs ho' hle hr0 (fun x e hx=>ih x e hx hr.2) hv
 | vec hp hv=>
  intro hr
  obtain⟨t,ver',xs,hi,hle,hx⟩:=hp
  obtain⟨o',ho'⟩:=Option.isSome_iff_exists.1 (show (lk L' _).isSome=true by simpa [AV.refs] using hr)
  obtain⟨o,ho,hl⟩:=hd.like _ o' ho'
  rw [hi] at ho; cases ho
  cases o' <;> simp [Jt.like] at hl
  obtain⟨rfl,rfl,rfl,hl⟩:=hl
  exact .vec ⟨t,ver',_,ho',hle,fun e=>⟨(hx e).1.trans hl,(hx e).2⟩⟩ hv
 | own hdd hp=>
  intro hr
  obtain⟨t,ver',hw,hi,hle,hx⟩:=hp
  obtain⟨o',ho'⟩:=Option.isSome_iff_exists.1 (show (lk L' _).isSome=true by simpa [AV.refs] using hr)
  obtain⟨o,ho,hl⟩:=hd.like _ o' ho'
  rw [hi] at ho; cases ho
  cases o' <;> simp [Jt.like] at hl
  obtain⟨rfl,rfl,rfl,rfl⟩:=hl
  refine .own (mono hdd) ⟨t,ver',hw,ho',hle,fun e=>?_⟩
  obtain⟨a1,a2,vals,a3,a4⟩:=hx e
  exact⟨a1,a2,vals,a3,fun j u hu=>by
   obtain⟨x,h1,h2⟩:=a4 j u hu
   exact⟨x,h1,mono h2⟩⟩

theorem V.conv {w:World} {β:Hd} {L L':Loc} (hd:J5c L L') {u u':AV} {v:Value} (h:V w β L u v) (hc:Conv (fun i=>(lk L' i).isSome) u u'):V w β L' u' v:=by
 cases hc with
 | same hr=>exact h.drop hd hr
 | junk=>exact .junk
 | list ha=>exact .data ((h.Qj ha).mono fun b i hs=>⟨hd.stab hs,rfl⟩)
 | nil=>rw [h.inv_sc]; exact .data (.nil (Nat.zero_le _))

inductive Ge3 (ok:Nat→Bool):Jt→Jt→Prop
 | same {t k ver hw:Nat}:Ge3 ok (.spare t k ver hw) (.spare t k ver hw)
 | map {t:Nat} {es:List (Value×AV)}:Ge3 ok (.map t es) (.map t es)
 | iter {m n:Nat} {es:List Nat} (h:ok m=true):Ge3 ok (.iter m n es) (.iter m n es)
 | vec {t k ver:Nat} {xs:List AV}:Ge3 ok (.vec t k ver xs) (.vec t k ver xs)
 | box {t:Nat} {cs cs':List AV} (hl:cs.length=cs'.length) (h:∀ (j:Nat) u u',cs[j]? = some u→cs'[j]? = some u'→Conv ok u u'):Ge3 ok (.box t cs) (.box t cs')

theorem Ge3.boxEq {ok:Nat→Bool} {t:Nat} {cs cs':List AV} (h:cs=cs') (hr:G2c ok cs'=true):Ge3 ok (.box t cs) (.box t cs'):=by
 subst h
 exact .box rfl fun j u u' hu hu'=>by
  rw [hu] at hu'; cases hu'
  exact .same (G37 hr u (Kk hu))
def Jdd (ok:Nat→Bool) (l:Fr):Fr→Prop
 | []=>True
 | (t,u)::r=>Conv ok (look l t) u∧Jdd ok l r
def H00 (ok:Nat→Bool) (L:Loc):Loc→Prop
 | []=>True
 | (id,o')::r=>(∃ o,lk L id=some o∧Ge3 ok o o')∧H00 ok L r
def allIn (L:Loc):List Nat→Bool
 | []=>true
 | i::r=>(lk L i).isSome&&allIn L r

structure Fits (B:List Nat) (l:Fr) (L:Loc) (l':Fr) (L':Loc):Prop where
 fr:Jdd (fun i=>(lk L' i).isSome) l l'
 loc:H00 (fun i=>(lk L' i).isSome) L L'
 base:allIn L' B=true

theorem H00.get {ok:Nat→Bool} {L:Loc}:∀ {L':Loc},H00 ok L L'→∀ {id:Nat} {o':Jt},lk L' id=some o'→∃ o,lk L id=some o∧Ge3 ok o o'
 | (i,x)::r,h,id,o',ho=>by
  rw [Gs] at ho
  by_cases e:i=id
  ·subst e; simp at ho; subst ho; exact h.1
  ·rw [if_neg e] at ho; exact h.2.get ho

theorem Jdd.get {ok:Nat→Bool} {l:Fr}:∀ {l':Fr},Jdd ok l l'→∀ t,Conv ok (look l t) (look l' t)
 | [],_,t=>by simpa [look] using Conv.junk
 | (i,x)::r,h,t=>by
  by_cases e:i=t
  ·subst e; simpa [look] using h.1
  ·have hb:Nat.beq i t=false:=by
    cases hb:Nat.beq i t with
    | false=>rfl
    | true=>exact absurd (Nat.eq_of_beq_eq_true hb) e
   simpa [look,hb] using h.2.get t

theorem Qb4 {L:Loc}:∀ {B:List Nat},allIn L B=true→∀ i∈B,(lk L i).isSome=true
 | i::r,h,j,hj=>by
  simp only [allIn,Kq] at h
  rcases Kw.1 hj with rfl | hj
  ·exact h.1
  ·exact Qb4 h.2 j hj

theorem Ge3.like {ok:Nat→Bool} {o o':Jt} (h:Ge3 ok o o'):o.like o':=by cases h <;> simp [Jt.like]

theorem Fits.drop {B:List Nat} {l l':Fr} {L L':Loc} (h:Fits B l L l' L'):J5c L L':=
 ⟨fun id o' ho'=>by obtain⟨o,h1,h2⟩:=h.loc.get ho'; exact⟨o,h1,h2.like⟩⟩

theorem Ys.fits {N:Cfg} {w0 w:World} {β0 β:Hd} {L0 L L':Loc} {a:Act} {l l':Fr} (hs:Ys N w0 β0 L0 a w β l L) (h:Fits N.base l L l' L'):Ys N w0 β0 L0 a w β l' L':=by
 have hd:=h.drop
 have hb:∀ id,(lk L0 id).isSome=true→(lk L' id).isSome=true:=fun id hid=>Qb4 h.base id (hs.base id hid)
 have keep:∀ id o0 o,lk L0 id=some o0→lk L id=some o→∃ o',lk L' id=some o'∧o.like o':=by
  intro id o0 o h0 ho
  obtain⟨o',ho'⟩:=Option.isSome_iff_exists.1 (hb id (by rw [h0]; rfl))
  obtain⟨o2,ho2,hl⟩:=hd.like id o' ho'
  rw [ho] at ho2; cases ho2
  exact⟨o',ho',hl⟩
 refine⟨⟨hs.sat.hid,fun id b hid hb=>hs.sat.bnd id b (hd.some hid) hb,fun id b j hid hb=>hs.sat.apart id b j (hd.some hid) hb,fun id id' b h1 h2=>hs.sat.inj id id' b (hd.some h1) (hd.some h2),fun id o' ho'=>?_⟩,?_,⟨fun t=>(hs.frame.tmp t).conv hd (h.fr.get t)⟩,hs.size,hs.base,hs.defers.sub fun id D h1 h2=>⟨id,hd.some h1,h2⟩⟩
 ·obtain⟨o,ho,hc⟩:=h.loc.get ho'
  have h0:=hs.sat.obj id o ho
  cases hc with
  | same=>exact h0
  | map=>
   obtain⟨b,h1,ents,h2,h3,h4⟩:=h0
   exact⟨b,h1,ents,h2,h3,fun i e k u he hu=>⟨(h4 i e k u he hu).1,(h4 i e k u he hu).2.1.mono fun b i hs=>⟨hd.stab hs,rfl⟩,(h4 i e k u he hu).2.2⟩⟩
  | vec=>
   obtain⟨h00,h0⟩:=h0
   refine⟨h00,?_⟩
   rcases h0 with h0 | ⟨b,h1,vs,h2,h3,h4⟩
   ·exact .inl h0
   ·exact .inr ⟨b,h1,vs,h2,h3,fun j u v hu hv=>(h4 j u v hu hv).mono fun b i hs=>⟨hd.stab hs,rfl⟩⟩
  | iter hm=>
   obtain⟨b,h1,bm,t,es,h2,h3,h4⟩:=h0
   obtain⟨o',ho'⟩:=Option.isSome_iff_exists.1 hm
   obtain⟨o2,ho2,hl⟩:=hd.like _ o' ho'
   rw [h2] at ho2; cases ho2
   cases o' <;> simp [Jt.like] at hl
   subst hl
   exact⟨b,h1,bm,_,_,ho',h3,h4⟩
  | box hl hc=>
   obtain⟨b,h1,vs,h2,h3,h4⟩:=h0
   refine⟨b,h1,vs,h2,h3.trans hl,fun j u' v hu' hv=>?_⟩
   rename_i cs cs'
   have hj:j < cs.length:=by
    rcases Nat.lt_or_ge j cs'.length with h | h
    ·omega
    ·simp [List.getElem?_eq_none h] at hu'
   exact(h4 j cs[j] v (by simp [hj]) hv).conv hd (hc j _ _ (by simp [hj]) hu')
 ·have st:=hs.step
  refine⟨st.os,st.tape,st.output,st.size,st.hid,fun b i h0=>⟨hd.stab (st.stab b i h0).1,(st.stab b i h0).2⟩,fun b hb' hf=>⟨(st.far b hb' hf).1,fun id hid=>(st.far b hb' hf).2 id (hd.some hid)⟩,fun id t cs h0=>?_,fun id t cs h0=>?_,fun id t n cs h0=>?_,fun id t k ver xs h0=>?_,fun id t k ver hw h0=>?_⟩
  ·obtain⟨e,cs',h1⟩:=st.box id t cs h0
   obtain⟨o',h2,h3⟩:=keep id _ _ h0 h1
   cases o' <;> simp [Jt.like] at h3
   subst h3
   exact⟨e,_,h2⟩
  ·obtain⟨e,cs',h1⟩:=st.map id t cs h0
   obtain⟨o',h2,h3⟩:=keep id _ _ h0 h1
   cases o' <;> simp [Jt.like] at h3
   subst h3
   exact⟨e,_,h2⟩
  ·obtain⟨e,n',cs',h1⟩:=st.iter id t n cs h0
   obtain⟨o',h2,h3⟩:=keep id _ _ h0 h1
   cases o' <;> simp [Jt.like] at h3
   subst h3
   exact⟨e,_,_,h2⟩
  ·obtain⟨v',xs',h1,h2',r⟩:=st.vec id t k ver xs h0
   obtain⟨o',h2,h3⟩:=keep id _ _ h0 h1
   cases o' <;> simp [Jt.like] at h3
   obtain⟨rfl,rfl,rfl,h4⟩:=h3
   exact⟨v',_,h2,h2',fun e=>⟨h4.symm.trans (r e).1,(r e).2⟩⟩
  ·obtain⟨v',hw',h1,r⟩:=st.spare id t k ver hw h0
   obtain⟨o',h2,h3⟩:=keep id _ _ h0 h1
   cases o' <;> simp [Jt.like] at h3
   obtain⟨rfl,rfl,rfl,rfl⟩:=h3
   exact⟨v',hw',h2,r⟩

section flow
variable {P:Program} {N:Cfg} {Q:Post} {l:Fr} {L:Loc}

theorem G29 {c:Code} {l':Fr} {L':Loc} (h:Fits N.base l L l' L') (hk:JC P N c Q l' L'):JC P N c Q l L:=
 fun n w0 β0 L0 a w β hs=>hk n w0 β0 L0 a w β (hs.fits h)
theorem Rcb {body:Code} {X:Type} (I:X→Prop) (F:X→Fr) (M:X→Loc) (μ:X→Nat) (x0:X) (h0:I x0) (hf:Fits N.base l L (F x0) (M x0))
  (hr:∀ x,I x→∀ K:Fr→Loc→Prop,(∀ l L x',I x'→μ x' < μ x→Fits N.base l L (F x') (M x')→K l L)→JC P N body (Q.seq K) (F x) (M x)):JC P N (.loop body) Q l L:=by
 intro n w0 β0 L0 a w β hs b k cs hro hb hroom
 have key:∀ m x a w β,μ x=m→I x→Ys N w0 β0 L0 a w β (F x) (M x) →
   ∃ e a' w',Q.out N w0 β0 L0 e a' w'∧ArrivesIn (Machine.fenced P (FR N.ro)) P (lone (b.atR a (.code body::.inLoop body::k)) cs w) b k cs e a' w':=by
  intro m
  induction m using Nat.strongRecOn with
  | _ m ih=>
   intro x a w β hn hI hs
   obtain⟨e,a₁,w₁,hq,harr⟩:=hr x hI (fun l L=>∃ x',I x'∧μ x' < μ x∧Fits N.base l L (F x') (M x')) (fun l L x' h1 h2 h3=>⟨x',h1,h2,h3⟩) n w0 β0 L0 a w β hs b (.inLoop body::k) cs hro hb hroom
   cases e with
   | normal=>
    obtain⟨β',l',L',hs',x',hI',hlt,hfit⟩:=hq
    obtain⟨e₂,a₂,w₂,hq₂,harr₂⟩:=ih (μ x') (hn ▸ hlt) x' a₁ w₁ β' rfl hI' (hs'.fits hfit)
    exact⟨e₂,a₂,w₂,hq₂,.of_steps (StepsIn.trans harr (.one (fenced_calm hb hroom rfl) stepR_inLoop)) harr₂⟩
   | exit id=>exact⟨.exit id,a₁,w₁,hq,.pass (x:=.inLoop body) rfl (fun _ _=>.inl (by simp)) harr⟩
   | goto l=>exact hq.elim
   | ret=>exact⟨.ret,a₁,w₁,hq,.pass (x:=.inLoop body) rfl (fun _ _=>.inl (by simp)) harr⟩
   | panic ch=>exact hq.elim
   | outgrown=>exact hq.elim
 obtain⟨e,a',w',hq,harr⟩:=key _ x0 a w β rfl h0 (hs.fits hf)
 exact⟨e,a',w',hq,.of_steps (.one (fenced_calm hb hroom rfl) stepR_loop) harr⟩
end flow

/-! ### Shorter forms, for printed texts -/
section short
variable {P:Program} {N:Cfg} {Q:Post} {l:Fr} {L:Loc} {ops:Array Oper} {o:Oper} {rest:List Oper}
theorem Js {x y:Code} (h:∀ {K:Fr→Loc→Prop},(∀ {l L},JC P N y Q l L→K l L)→JC P N x (Q.seq K) l L):JC P N (.seq x y) Q l L:=G5 fun K hK=>h (hK _ _)
theorem Jr {id:Nat} {ops:List Oper} {y:Code} (h:∀ {K:Fr→Loc→Prop},(∀ {l L},JC P N y Q l L→K l L)→JL P N ops.toArray ops (Q.seq K) l L):JC P N (.seq (.region id ops.toArray false) y) Q l L:=G5 fun K hK=>G2 (h (hK _ _))
def Y88 (o:Oper):Bool:=match o.op with
 | .move _ | .assign _=>true
 | _=>false
def Y89 (l:Fr) (o:Oper):AV:=match o.op with
 | .move x | .assign x=>ev l x
 | _=>.junk
theorem H36 (v:AV) (hm:Y88 o=true) (hx:Y89 l o=v):H5 P o l L (Is v L):=by
 intro a w β K R hsat hf hK
 unfold Y88 at hm
 unfold Y89 at hx
 subst hx
 cases ho:o.op <;> rw [ho] at hm <;> first | cases hm | skip
 all_goals
  unfold Oper.wp
  simp only [execOp,ho,Sem.run_pure]
  refine hK _ _ _ w β ⟨rfl,rfl⟩ hsat (Step.refl w β L) ?_
  rw [ho]
  exact hf.ev _
theorem JLm (v:AV) {d:Nat} (hd:o.dst=some d) (hk:JL P N ops rest Q ((d,v)::l) L) (hm:Y88 o=true:=by rfl) (hx:Y89 l o=v:=by rfl) (hg:o.guard=none:=by rfl) (hn:Nat.blt d N.n=true:=by rfl) (hnd:G77 o=true:=by rfl):JL P N ops (o::rest) Q l L:=G0 (H36 v hm hx) hk hg hd hn hnd
theorem JCc {c:Operand} {x y:Code} {b:Bool} {β:Type} {A B R:β} (hc:ev l c=.sc (.bool b)) (h:(bif b then A else B)=R) (ht:A=R→b=true→JC P N x Q l L) (hf:B=R→b=false→JC P N y Q l L):JC P N (.cond c x y) Q l L:=
 Gj hc (fun e=>ht (by rw [← h,e]; rfl) e) (fun e=>hf (by rw [← h,e]; rfl) e)
end short

/-! ### The beginning and the end of a call -/
def H2f:Nat→List AV→Fr
 | _,[]=>[]
 | n,a::r=>(n,a)::H2f (n+1) r

theorem Hf7:∀ (n:Nat) (as:List AV) (t:Nat),look (H2f n as) t=if n≤t then (as[t - n]?).getD .junk else .junk
 | n,[],t=>by simp [H2f,look]
 | n,a::r,t=>by
  by_cases e:n=t
  ·subst e; simp [H2f,look]
  ·have hb:Nat.beq n t=false:=by
    cases hb:Nat.beq n t with
    | false=>rfl
    | true=>exact absurd (Nat.eq_of_beq_eq_true hb) e
   simp only [H2f,look,hb,cond_false,Hf7 (n+1) r t]
   by_cases h:n≤t
   ·rw [if_pos h,if_pos (by omega)]
    rw [show t - n=(t - (n+1))+1 by omega,List.getElem?_cons_succ]
   ·rw [if_neg h,if_neg (by omega)]

def Post.fin (F:Fr→Loc→Prop):Post:=⟨F,F,fun _ _ _=>False⟩

theorem Jd1 {w:World} {D:Nat} {o o':Obj} (hD:w.heap[D]? = some o) (ho:∀ vs t f,o≠.cells vs t f) (ho':∀ vs t f,o'≠.cells vs t f) (a:Addr):(w.putObj D o').cell? a=w.cell? a:=by
 unfold World.cell?
 by_cases e:a.block=D
 ·rw [e,World.putObj_heap_same (Array.getElem?_eq_some_iff.1 hD).1,hD]
  cases o <;> cases o' <;> simp_all
 ·rw [World.putObj_heap_other e]
theorem H86 {w:World} {β:Hd} {L:Loc} {D B:Nat} {o o':Obj} (hD:w.heap[D]? = some o) (ho:∀ vs t f,o≠.cells vs t f) (ho':∀ vs t f,o'≠.cells vs t f) (hL:∀ id,(lk L id).isSome=true→β id≠some D)
  (w0:World) (β0:Hd) (L0:Loc) (hB:w0.heap.size≤B) (hBD:B≤D) (hs:Step w0 β0 L0 w β L):Step w0 β0 L0 (w.putObj D o') β L:=by
 have hx:∀ id b,(lk L id).isSome=true→β id=some b→(w.putObj D o').heap[b]? = w.heap[b]? := fun id b h1 h2=>World.putObj_heap_other fun e=>hL id h1 (by rw [h2,e])
 refine⟨hs.os,hs.tape,hs.output,by rw [World.putObj_size]; exact hs.size,hs.hid,fun b i h=>?_,fun b hb hf=>?_,hs.box,hs.map,hs.iter,fun id t k ver xs h=>?_,fun id t k ver hw h=>?_⟩
 ·obtain⟨h1,h2⟩:=hs.stab b i h
  exact⟨⟨by rw [World.putObj_size]; exact h1.lt,h1.seen,h1.kept⟩,(Jd1 hD ho ho' _).trans h2⟩
 ·obtain⟨h1,h2⟩:=hs.far b hb hf
  exact⟨(World.putObj_heap_other (by omega)).trans h1,h2⟩
 ·obtain⟨v',xs',h1,h2,h3⟩:=hs.vec id t k ver xs h
  refine⟨v',xs',h1,h2,fun e=>?_⟩
  obtain⟨a1,a2,a3⟩:=h3 e
  refine⟨a1,a2,fun b hb=>?_⟩
  rw [← a3 b hb]
  have:=hx id b (by rw [h1]; rfl) (a2.trans hb)
  unfold World.shape?
  rw [this]
 ·obtain⟨v',hw',h1,h2,h3⟩:=hs.spare id t k ver hw h
  refine⟨v',hw',h1,h2,fun e=>?_⟩
  obtain⟨a1,a2,a3⟩:=h3 e
  exact⟨a1,a2,fun b hb=>(hx id b (by rw [h1]; rfl) (a2.trans hb)).trans (a3 b hb)⟩
theorem Ged {w:World} {β:Hd} {L:Loc} {D:Nat} {o o':Obj} (hD:w.heap[D]? = some o) (ho:∀ vs t f,o≠.cells vs t f) (ho':∀ vs t f,o'≠.cells vs t f) (hL:∀ id,(lk L id).isSome=true→β id≠some D):Ha2 w β L (w.putObj D o') β L:=by
 have hx:∀ id b,(lk L id).isSome=true→β id=some b→(w.putObj D o').heap[b]? = w.heap[b]? := fun id b h1 h2=>World.putObj_heap_other fun e=>hL id h1 (by rw [h2,e])
 exact⟨fun b i h=>⟨⟨by rw [World.putObj_size]; exact h.lt,h.seen,h.kept⟩,Jd1 hD ho ho' _⟩,fun _ _ cs h=>⟨rfl,cs,h⟩,fun _ _ es h=>⟨rfl,es,h⟩,fun _ _ n es h=>⟨rfl,n,es,h⟩,
  fun id _ _ ver xs h=>⟨ver,xs,h,Kn,fun _=>⟨rfl,rfl,fun b hb=>G5a (hx id b (by rw [h]; rfl) hb)⟩⟩,
  fun id _ _ ver hw h=>⟨ver,hw,h,Kn,fun _=>⟨rfl,rfl,fun b hb=>hx id b (by rw [h]; rfl) hb⟩⟩⟩
theorem Hbd {w:World} {β:Hd} {L:Loc} {D:Nat} {o o':Obj} (hD:w.heap[D]? = some o) (ho:∀ vs t f,o≠.cells vs t f) (ho':∀ vs t f,o'≠.cells vs t f) (hL:∀ id,(lk L id).isSome=true→β id≠some D)
  (h:Sat w β L):Sat (w.putObj D o') β L:=
 ⟨fun b i hh=>by rw [World.putObj_size]; exact h.hid b i hh,fun id b h1 h2=>by rw [World.putObj_size]; exact h.bnd id b h1 h2,h.apart,h.inj,
  fun id o hi=>(h.obj id o hi).stepW (Ged hD ho ho' hL) (fun b hb=>World.putObj_heap_other fun e=>hL id (by rw [hi]; rfl) (by rw [hb,e]))⟩

theorem Ys.leaves {F:Fence} {n:Nat} {P:Program} {fn:Func} {R:Ending→World→Prop} {N:Cfg} {w0:World} {β0 β:Hd} {L0 L:Loc} {l:Fr} {tmps:Array Value} :
  ∀ {ds:List Deferred} {w:World},Ys N w0 β0 L0 { tmps:=tmps,defers:=ds } w β l L→(∀ w'',Ys N w0 β0 L0 { tmps:=tmps,defers:=[] } w'' β l L→LeavesIn F n P fn tmps R [] .returning w'')→LeavesInM F n P fn tmps R ds .returning w
 | [],w,hs,h=>h w hs
 | d::ds,w,hs,h=>by
  obtain⟨D,rfl,hB,hD,hL⟩:=hs.defers.each d (List.mem_cons_self ..)
  refine⟨by simp,.inl ⟨D,w.putObj D (.deferred none),rfl,run_takeDeferred hD,Ys.leaves ?_ h⟩⟩
  have hn:=List.nodup_cons.1 hs.defers.nodup
  refine⟨Hbd hD (by simp) (by simp) hL hs.sat,H86 hD (by simp) (by simp) hL w0 β0 L0 (Kn) hB hs.step,⟨fun t=>(hs.frame.tmp t).stepW (Ged hD (by simp) (by simp) hL)⟩,hs.size,hs.base,fun h=>(by have:=hs.defers.top h; cases this),hn.2,fun d' hd'=>?_⟩
  obtain⟨D',rfl,hB',hD',hL'⟩:=hs.defers.each d' (List.mem_cons_of_mem _ hd')
  exact⟨D',rfl,hB',(World.putObj_heap_other (fun e=>hn.1 (by rw [← e]; exact hd'))).trans hD',hL'⟩
theorem Hcb {P:Program} {f:FuncId} {fn:Func} {c:Code} {args:List AV} {L0:Loc} {R:AV→Loc→Prop} {base:List Nat} {F:Fr→Loc→Prop} (hf:P.funcs[f]? = some fn) (hb:fn.body=some c)
  (hbase:∀ id,(lk L0 id).isSome=true→id∈base)
  (hF:∀ w0 β0 a w β l L,Ys ⟨fn.ntmps,base,none⟩ w0 β0 L0 a w β l L→F l L→∃ v r L',(results fn a.tmps).run P w=.ok v w∧Sat w β L'∧Step w0 β0 L0 w β L'∧V w β L' r v∧R r L')
  (h:JC P ⟨fn.ntmps,base,none⟩ c (.fin F) (H2f 0 args) L0):Ym P f args L0 R:=by
 intro w β vs hsat hl hv
 refine callsIn_wide.1 (callsIn_of_wp_marks (F:=Fence.wide) (n:=0) hf hb trivial (Code.wpIn_mono (fun e a' w' q=>?_) (h 0 w β L0 _ w β ⟨hsat,Step.refl _ _ _,⟨fun t=>?_⟩,?_,hbase,.nil⟩)))
 ·have fin:(∃ β' l' L',Ys ⟨fn.ntmps,base,none⟩ w β L0 a' w' β' l' L'∧F l' L')→LeavesInM Fence.wide 0 P fn a'.tmps (fun e w'=>∃ v r β' L',e=.returned v∧Sat w' β' L'∧Step w β L0 w' β' L'∧V w' β' L' r v∧R r L') a'.defers .returning w':=by
   rintro⟨β',l',L',hs,hq⟩
   refine Ys.leaves (tmps:=a'.tmps) (ds:=a'.defers) hs fun w'' hs'=>?_
   obtain⟨v,r,L'',h1,h2,h3,h4,h5⟩:=hF w β _ w'' β' l' L' hs' hq
   exact⟨v,h1,v,r,β',L'',rfl,h2,h3,h4,h5⟩
  cases e with
  | normal=>exact fin q
  | ret=>exact fin q
  | exit i=>obtain⟨_,_,_,_,hq⟩:=q; exact hq.elim
  | goto l=>exact q.elim
  | panic c=>exact q.elim
  | outgrown=>exact q.elim
 ·rw [Hf7]
  simp only [Nat.zero_le,if_true,Nat.sub_zero]
  cases hu:args[t]? with
  | none=>exact .junk
  | some u=>
   have ht:t < vs.size:=by
    rcases Nat.lt_or_ge t args.length with h | h
    ·omega
    ·simp [List.getElem?_eq_none h] at hu
   have e:(vs++Array.replicate (fn.ntmps - vs.size) undef).getD t undef=vs[t]:=by
    rw [Array.getD_eq_getD_getElem?,Array.getElem?_append_left ht]; simp [ht]
   rw [e]
   exact hv t u _ hu (by simp [ht])
 ·simp; omega

end Go.Proofs.YthcpolfodgjekaaGreat
