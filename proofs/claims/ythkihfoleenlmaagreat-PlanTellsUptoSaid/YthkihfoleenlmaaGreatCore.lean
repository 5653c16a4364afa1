/- The ground of all proofs here: -/
import Derived.WalkKit
import Derived.ProofKit
import Derived.OpenShut
import Derived.KernelRfl
import Derived.Laws.CopyRow
import Derived.Laws.OwnMore
import Derived.Laws.AppendOwnNone
import Derived.OrdersIn
import Derived.TacticsIn
import Derived.RangeFuncNested
import Derived.RangeFuncLeaves
set_option linter.unusedVariables false
namespace Go.Proofs.YthkihfoleenlmaaGreat
theorem Ny {J:Type} {x:Option J}:x.isSome=true→∃ a,x=some a:=Option.isSome_iff_exists.1
theorem Nz {J:Type} {l:Array J} {i:Nat} {a:J}:l[i]?=some a→∃ h:i<l.size,l[i]=a:=Array.getElem?_eq_some_iff.1
theorem P0 {n m k:Nat}:n<m→m≤k→n<k:=Nat.lt_of_lt_of_le
theorem P1 {J:Type} {l:List J}:l.length=0→l=[]:=List.eq_nil_of_length_eq_zero
theorem P2 {n m:Nat}:Nat.beq n m=true→n=m:=Nat.eq_of_beq_eq_true
theorem P3 {J:Type} (p:J→Bool) (l:List J):(l.filter p).length≤l.length:=List.length_filter_le p l
theorem P4 (a b:Nat):a<b\/a≥b:=Nat.lt_or_ge a b
abbrev P5:ByteArray:=ByteArray.empty
theorem P6 {p:Prop} [Decidable p]:decide p=true→p:=of_decide_eq_true
theorem P7 {p:Prop} [Decidable p]:decide p=false→¬p:=of_decide_eq_false
theorem P8 {p:Prop} [Decidable p]:p→decide p=true:=decide_eq_true
theorem P9 {p:Prop} [Decidable p]:¬p→decide p=false:=decide_eq_false
theorem Pa {J:Type} {l:List J} {i:Nat} {a:J}:l[i]?=some a→∃ h:i<l.length,l[i]=a:=List.getElem?_eq_some_iff.1
theorem Pb {J:Type} {l:List J} {i:Nat} (h:i<l.length):l[i]?=some l[i]:=List.getElem?_eq_getElem h
theorem Pc {J:Type} {a b:J}:some a=some b→a=b:=Option.some.inj
theorem Pd {J:Type} {l:List J} {i:Nat} {a:J}:l[i]?=some a→a∈l:=List.mem_of_getElem?
theorem Pe {J:Type} {a:J}:¬a∈([]:List J):=List.not_mem_nil
theorem Pf {n:Nat}:n≤n:=Nat.le_refl n
theorem Pg {J:Type} {a b:List J} {i:Nat} (h:a.length≤i):(a++b)[i]?=b[i-a.length]?:=List.getElem?_append_right h
theorem Ph {J:Type} {a b:List J} {n:Nat} (h:n<a.length):(a++b)[n]?=a[n]?:=List.getElem?_append_left h
theorem Pi {J:Type} {a:J} {l:List J}:(a::l).length=l.length+1:=rfl
theorem Pj {J β:Type} {f:J→β} {l:List J} {i:Nat}:(l.map f)[i]?=(l[i]?).map f:=List.getElem?_map
theorem Pk {J:Type} {l:List J} {i j:Nat}:(l.take i)[j]?=if j<i then l[j]? else none:=List.getElem?_take
theorem Pm {J:Type} {l:List J} {i j:Nat}:(l.drop i)[j]?=l[i+j]?:=List.getElem?_drop
theorem Pn {J:Type} {a b:List J}:(a++b).length=a.length+b.length:=List.length_append
theorem Po {J:Type} {a:J}:[a].length=1:=rfl
theorem Pp (a b:Bool):((a&&b)=true)=(a=true/\b=true):=Bool.and_eq_true a b
theorem Pq {p:Prop} [Decidable p]:(decide p=true)=p:=decide_eq_true_eq
theorem Pr {J β:Type} {l:List J} (f:J→β):(l.map f).length=l.length:=List.length_map f
theorem Ps {J:Type} {a:J} {s t:List J}:a∈s++t↔a∈s\/a∈t:=List.mem_append
theorem Pt {J β:Type} {b:β} {f:J→β} {l:List J}:b∈l.map f↔∃ a∈l,f a=b:=List.mem_map
theorem Pu {J:Type} {a b:J}:a∈[b]↔a=b:=List.mem_singleton
theorem Pv {J:Type} {a b:J} {l:List J}:a∈b::l↔a=b\/a∈l:=List.mem_cons
theorem Pw {J:Type} {p:J→Bool} {a:J} {l:List J}:a∈l.filter p↔a∈l/\p a=true:=List.mem_filter
theorem Px (a b:Bool):((a||b)=true)=(a=true\/b=true):=Bool.or_eq_true a b
theorem Py {a b:Bool}:(a||b)=false↔a=false/\b=false:=Bool.or_eq_false_iff
abbrev Nx (n:Int):Value:=.int .i64 n
open Go.RowKit

inductive AV where
 | junk
 | sc (v:Value)
 | agg (cs:List AV)
 | tup (cs:List AV)
 | list (k:Nat) (xs:List AV)
 | dptr (cs:List AV)
 | ptr (i off:Nat)
 | own (i ver k:Nat) (xs:List AV)
 | ms (i off n cap:Nat)
 | mp (i:Nat)
 | it (i:Nat)
 | vec (i ver k n:Nat)
 | fn (f:FuncId) (caps:List AV)
 | bfn (f:FuncId) (firsts:List AV)
 | opt (c:Bool) (x:AV)
 | vptr (i ver m f:Nat)
 | vsl (i ver k off n:Nat)
 | vcap (i ver k n c:Nat)
 | nst (i ver n:Nat) (pre:List AV) (last:AV)
 | nptr (i ver m:Nat) (u:AV)
 | lst (k:Nat) (xs ys:List AV)
 | dmap (es:List (Value×AV))
 | bag (k:Nat) (xs:List AV)
 | blk (o:Option (Nat×Nat)) (t k:Nat) (u:AV)
 | frz (t k:Nat) (u:AV)

def AV.cells:AV→List AV
 | .agg cs=>cs
 | v=>[v]

def flat:List AV→List AV
 | []=>[]
 | x::r=>x.cells++flat r

def AV.isCell:AV→Bool
 | .sc v=>v.oneCell'
 | .list .. | .dptr .. | .ptr .. | .own .. | .ms .. | .mp .. | .it .. | .vec .. | .fn .. | .bfn .. | .vptr .. | .vsl .. | .vcap .. | .nst .. | .nptr .. | .lst .. | .dmap .. | .blk .. | .frz ..=>true
 | _=>false

inductive Jn where
 | box (t:TypeId) (cs:List AV)
 | spare (t k ver hw:Nat)
 | vec (t k ver:Nat) (xs:List AV)
 | map (t:TypeId) (es:List (Value×AV))
 | iter (m:AV) (n:Nat) (seen:List Nat)
 | pin (t:TypeId) (b:Nat) (cs:List AV)

def Jn.keeps:Jn→Nat→Prop
 | .spare _ k _ hw,i=>i < hw*k
 | _,_=>False

abbrev Loc:=List (Nat×Jn)
abbrev Fr:=List (Nat×AV)

def lk:Loc→Nat→Option Jn
 | [],_=>none
 | (i,o)::r,j=>bif Nat.beq i j then some o else lk r j

def look:Fr→Nat→AV
 | [],_=>.junk
 | (i,o)::r,j=>bif Nat.beq i j then o else look r j

structure H4 where
 at_:Nat→Option Nat
 hid:Nat→Nat→Prop

instance:CoeFun H4 (fun _=>Nat→Option Nat):=⟨H4.at_⟩

structure Ji (w:World) (β:H4) (L:Loc) (b i:Nat):Prop where
 lt:b < w.heap.size
 seen:¬ β.hid b i
 kept:∀ id o,lk L id=some o→β id=some b→o.keeps i

structure Cfg where
 n:Nat
 base:List Nat
 ro:Option Nat

def isT:AV→Bool
 | .tup []=>true
 | _=>false
def Hbf:Nat→List (Value×AV)→List Value→List MapEntry
 | i,p::es,v::vs=>if isT p.2 then Hbf (i+1) es vs else ⟨p.1,v,i⟩::Hbf (i+1) es vs
 | _,_,_=>[]
def G85 (w:World) (b:Nat):Option (Array MapEntry×Nat):=match w.heap[b]? with
 | some (.map ents n)=>some (ents,n)
 | _=>none
def RI (w:World) (b:Nat):Option (Nat×TypeId×(Nat×Nat)):=match w.heap[b]? with
 | some (.cells vs t f)=>some (vs.size,t,f)
 | _=>none
def Zb (w:World) (b i:Nat):Option Value×Option (Array MapEntry×Nat)×Option (Nat×TypeId×(Nat×Nat)):=(w.cell? ⟨b,i,none⟩,G85 w b,bif (w.cell? ⟨b,i,none⟩).isNone then RI w b else none)
theorem Q1 {w w':World} {b i:Nat} (h:w'.heap[b]? = w.heap[b]?):Zb w' b i=Zb w b i:=by
 unfold Zb G85 RI; rw [h,World.cell?_of_block (w:=w) h]
theorem pK {w w':World} {b i:Nat} (h:Zb w' b i=Zb w b i):w'.cell? ⟨b,i,none⟩=w.cell? ⟨b,i,none⟩:=congrArg Prod.fst h
theorem G14 {w:World} {b:Nat} {ents:Array MapEntry} {n:Nat}:G85 w b=some (ents,n) ↔ w.heap[b]? = some (.map ents n):=by
 unfold G85
 cases h:w.heap[b]? with
 | none=>simp
 | some o=>cases o <;> simp
theorem J05 {w w':World} {b i:Nat} (h:Zb w' b i=Zb w b i) {ents:Array MapEntry} {n:Nat} (hm:w.heap[b]? = some (.map ents n)):w'.heap[b]? = some (.map ents n):=
 G14.1 ((congrArg (fun q=>q.2.1) h).trans (G14.2 hm))
theorem G5a {w w':World} {b i:Nat} (h:w'.cell? ⟨b,i,none⟩=w.cell? ⟨b,i,none⟩) (hs:(w.cell? ⟨b,i,none⟩).isSome=true) {vs vs':Array Value} {t t':TypeId} {f f':Nat×Nat} (h1:w.heap[b]? = some (.cells vs t f)) (h2:w'.heap[b]? = some (.cells vs' t' f')):Zb w' b i=Zb w b i:=by
 have hn:(w.cell? ⟨b,i,none⟩).isNone=false:=by
  cases hc:w.cell? ⟨b,i,none⟩ with
  | none=>rw [hc] at hs; cases hs
  | some x=>rfl
 unfold Zb G85; rw [h,h1,h2,hn]; rfl
theorem G8e {w w':World} {b:Nat} (h:∀ i,Zb w' b i=Zb w b i) {vs:Array Value} {t:TypeId} {f:Nat×Nat} (hb:w.heap[b]? = some (.cells vs t f)):w'.heap[b]? = some (.cells vs t f):=by
 have hc:∀ i,w.cell? ⟨b,i,none⟩=vs[i]? := fun i=>by simp [World.cell?,hb]
 have h0:=h vs.size
 have hz:w.cell? ⟨b,vs.size,none⟩=none:=by rw [hc]; simp
 have h1:=(pK h0).trans hz
 have hk:RI w' b=RI w b:=by
  have:=congrArg (fun q=>q.2.2) h0
  simpa [Zb,hz,h1] using this
 have h2:RI w b=some (vs.size,t,f):=by unfold RI; rw [hb]
 rw [h2] at hk
 unfold RI at hk
 cases hw:w'.heap[b]? with
 | none=>rw [hw] at hk; cases hk
 | some o=>
  rw [hw] at hk
  cases o with
  | cells vs' t' f'=>
   simp only [Option.some.injEq,Prod.mk.injEq] at hk
   obtain⟨e1,e2,e3⟩:=hk
   subst e2 e3
   have h3:∀ i,w'.cell? ⟨b,i,none⟩=vs'[i]? := fun i=>by simp [World.cell?,hw]
   have:vs'=vs:=Array.ext_getElem? fun i=>by rw [← h3,← hc,pK (h i)]
   rw [this]
  | _=>cases hk

def H3f (w:World) (S:Nat→Nat→Prop) (t k:Nat) (o:Option (Nat×Nat)) (v:Value):Prop:=
 (o=none/\v=.slice none 0 0)\/∃ b c n,∃ vs:Array Value,o=some (b,c)/\v=.slice (some ⟨b,0,none⟩) n c/\n≤c/\c≤maxLen/\w.heap[b]? = some (.cells vs t (0,0))/\vs.size=c*k/\∀ i,S b i
def lB (os:List (Option (Nat×Nat))):List Nat:=os.filterMap fun o=>o.map Prod.fst
def Hcc (w:World) (S:Nat→Nat→Prop) (t k:Nat) (v:Value):Prop:=
 ∃ (xs:List Value) (os:List (Option (Nat×Nat))),os.length=xs.length/\(∀ (j:Nat) o x,os[j]? = some o→xs[j]? = some x→H3f w S t k o x)/\(lB os).Nodup /\
  ((v=.slice none 0 0/\xs=[])\/∃ b0 cap,∃ vs:Array Value,∃ t0 f0,v=.slice (some ⟨b0,0,none⟩) xs.length cap/\xs.length≤cap/\cap≤maxLen/\w.heap[b0]? = some (.cells vs t0 f0)/\(∀ j,j < xs.length→vs[j]? = xs[j]?)/\(∀ i,S b0 i)/\b0 ∉ lB os)
theorem H3f.mono {w w':World} {S S':Nat→Nat→Prop} {t k:Nat} {o:Option (Nat×Nat)} {v:Value} (h:H3f w S t k o v) (hs:∀ b i,S b i→S' b i/\Zb w' b i=Zb w b i):H3f w' S' t k o v:=by
 rcases h with h | ⟨b,c,n,vs,h1,h2,h3,h4,h5,h6,h7⟩
 .exact .inl h
 .exact .inr ⟨b,c,n,vs,h1,h2,h3,h4,G8e (fun i=>(hs b i (h7 i)).2) h5,h6,fun i=>(hs b i (h7 i)).1⟩
theorem Hcc.mono {w w':World} {S S':Nat→Nat→Prop} {t k:Nat} {v:Value} (h:Hcc w S t k v) (hs:∀ b i,S b i→S' b i/\Zb w' b i=Zb w b i):Hcc w' S' t k v:=by
 obtain⟨xs,os,h1,h2,h3,h4⟩:=h
 refine⟨xs,os,h1,fun j o x ho hx=>(h2 j o x ho hx).mono hs,h3,?_⟩
 rcases h4 with h4 | ⟨b0,cap,vs,t0,f0,g1,g2,g3,g4,g5,g6,g7⟩
 .exact .inl h4
 .exact .inr ⟨b0,cap,vs,t0,f0,g1,g2,g3,G8e (fun i=>(hs b0 i (g6 i)).2) g4,g5,fun i=>(hs b0 i (g6 i)).1,g7⟩

inductive D (w:World) (S:Nat→Nat→Prop):AV→Value→Prop
 | junk {v:Value}:D w S .junk v
 | sc {v:Value}:D w S (.sc v) v
 | agg {cs:List AV} {vs:Array Value} (hl:vs.size=cs.length) (h:∀ (j:Nat) u v,cs[j]? = some u→vs[j]? = some v→D w S u v):D w S (.agg cs) (.agg vs)
 | tup {cs:List AV} {vs:Array Value} (hl:vs.size=cs.length) (h:∀ (j:Nat) u v,cs[j]? = some u→vs[j]? = some v→D w S u v):D w S (.tup cs) (.tuple vs)
 | nil {k cap:Nat} {a:Option Addr} (h:cap≤maxLen):D w S (.list k []) (.slice a 0 cap)
 | list {k b off cap:Nat} {xs:List AV} (vals:Nat→Value) (hcap:xs.length≤cap) (hm:cap≤maxLen) (hk:∀ x∈xs,x.cells.length=k)
   (hS:∀ j,j < (flat xs).length→S b (off+j)/\w.cell? ⟨b,off+j,none⟩=some (vals j))
   (h:∀ (j:Nat) u,(flat xs)[j]? = some u→D w S u (vals j)):D w S (.list k xs) (.slice (some ⟨b,off,none⟩) xs.length cap)
 | lnil {k cap:Nat} {a:Option Addr} (h:cap≤maxLen):D w S (.lst k [] []) (.slice a 0 cap)
 | lst {k b off cap:Nat} {xs ys:List AV} (vals:Nat→Value) (hcap:xs.length+ys.length≤cap) (hm:cap≤maxLen) (hk:∀ x∈xs++ys,x.cells.length=k)
   (hS:∀ j,j < (flat (xs++ys)).length→S b (off+j)/\w.cell? ⟨b,off+j,none⟩=some (vals j))
   (h:∀ (j:Nat) u,(flat (xs++ys))[j]? = some u→D w S u (vals j)):D w S (.lst k xs ys) (.slice (some ⟨b,off,none⟩) xs.length cap)
 | dptr {b off:Nat} {cs:List AV} (vals:Nat→Value)
   (hS:∀ j,j < cs.length→S b (off+j)/\w.cell? ⟨b,off+j,none⟩=some (vals j))
   (h:∀ (j:Nat) u,cs[j]? = some u→D w S u (vals j)):D w S (.dptr cs) (.pointer (some ⟨b,off,none⟩))
 | fn {f:FuncId} {cs:List AV} {vs:Array Value} (hl:vs.size=cs.length) (h:∀ (j:Nat) u v,cs[j]? = some u→vs[j]? = some v→D w S u v):D w S (.fn f cs) (.func (.func f) #[] vs)
 | bfn {f:FuncId} {cs:List AV} {vs:Array Value} (hl:vs.size=cs.length) (h:∀ (j:Nat) u v,cs[j]? = some u→vs[j]? = some v→D w S u v):D w S (.bfn f cs) (.func (.func f) vs #[])
 | opt {c:Bool} {x:AV} {v:Value} (h:c=true→D w S x v) (h0:c=false→v=undef):D w S (.opt c x) v
 | dmap {b:Nat} {es:List (Value×AV)} (vals:List Value) (hl:vals.length=es.length) (hw:w.heap[b]? = some (.map (Hbf 0 es vals).toArray es.length)) (hS:∀ i,S b i)
   (h:∀ (i:Nat) k u v,es[i]? = some (k,u)→vals[i]? = some v→isT u=false→D w S u v):D w S (.dmap es) (.map (some b))
 | bag {k:Nat} {xs ys:List AV} {v:Value} (hp:ys.Perm xs) (h:D w S (.list k ys) v):D w S (.bag k xs) v
 | blk {o:Option (Nat×Nat)} {t k:Nat} {u:AV} {v:Value} (hb:H3f w S t k o v) (h:D w S u v):D w S (.blk o t k u) v
 | frz {t k:Nat} {u:AV} {v:Value} (hf:Hcc w S t k v) (h:D w S u v):D w S (.frz t k u) v

theorem D.mono {w w':World} {S S':Nat→Nat→Prop} {u:AV} {v:Value} (h:D w S u v)
  (hs:∀ b i,S b i→S' b i/\Zb w' b i=Zb w b i):D w' S' u v:=by
 induction h with
 | junk=>exact .junk
 | sc=>exact .sc
 | agg hl _ ih=>exact .agg hl ih
 | tup hl _ ih=>exact .tup hl ih
 | nil h=>exact .nil h
 | list vals h1 hm hk hS _ ih=>exact .list vals h1 hm hk (fun j hj=>⟨(hs _ _ (hS j hj).1).1,(pK (hs _ _ (hS j hj).1).2).trans (hS j hj).2⟩) ih
 | lnil h=>exact .lnil h
 | lst vals h1 hm hk hS _ ih=>exact .lst vals h1 hm hk (fun j hj=>⟨(hs _ _ (hS j hj).1).1,(pK (hs _ _ (hS j hj).1).2).trans (hS j hj).2⟩) ih
 | dptr vals hS _ ih=>exact .dptr vals (fun j hj=>⟨(hs _ _ (hS j hj).1).1,(pK (hs _ _ (hS j hj).1).2).trans (hS j hj).2⟩) ih
 | fn hl _ ih=>exact .fn hl ih
 | bfn hl _ ih=>exact .bfn hl ih
 | opt _ h0 ih=>exact .opt ih h0
 | dmap vals hl hw hS _ ih=>exact .dmap vals hl (J05 (hs _ _ (hS 0)).2 hw) (fun i=>(hs _ _ (hS i)).1) ih
 | bag hp _ ih=>exact .bag hp ih
 | blk hb _ ih=>exact .blk (hb.mono hs) ih
 | frz hf _ ih=>exact .frz (hf.mono hs) ih

def Jee (w:World) (S:Nat→Nat→Prop) (ob:Option Nat) (t k:Nat) (xs:List AV) (v:Value):Prop:=
 v.ownBlock=ob/\∃ vals:List Value,w.ownsRow 0 t k v xs.length vals/\∀ (j:Nat) u,(flat xs)[j]? = some u→∃ x,vals[j]? = some x/\D w S u x

def Gb5 (w:World) (ob:Option Nat) (t k n:Nat) (v:Value):Prop:=
 (v=.slice none 0 0/\n=0/\ob=none)\/∃ b cap,v=.slice (some ⟨b,0,none⟩) n cap/\ob=some b/\n≤cap/\cap≤maxLen/\w.shape? b=some (t,cap*k)

def G29 (ob:Option Nat) (k off n:Nat) (v:Value):Prop:=
 ∃ a cap,v=.slice a n cap/\n≤cap/\cap≤maxLen/\(n=0\/∃ b,ob=some b/\a=some ⟨b,off*k,none⟩)

def G3c (w:World) (ob:Option Nat) (t k n c:Nat) (v:Value):Prop:=
 (v=.slice none 0 0/\n=0/\c=0/\ob=none)\/∃ b,v=.slice (some ⟨b,0,none⟩) n c/\ob=some b/\n≤c/\c≤maxLen/\w.shape? b=some (t,c*k)

def J42 (w:World) (ob:Option Nat) (t n:Nat) (v:Value) (vs:Array Value):Prop:=
 (v=.slice none 0 0/\n=0/\ob=none)\/∃ b cap,v=.slice (some ⟨b,0,none⟩) n cap/\ob=some b/\n≤cap/\cap≤maxLen/\w.heap[b]? = some (.cells vs t (0,0))/\vs.size=cap

inductive V (w:World) (β:H4) (L:Loc):AV→Value→Prop
 | data {u:AV} {v:Value} (h:D w (Ji w β L) u v):V w β L u v
 | agg {cs:List AV} {vs:Array Value} (hl:vs.size=cs.length) (h:∀ (j:Nat) u v,cs[j]? = some u→vs[j]? = some v→V w β L u v):V w β L (.agg cs) (.agg vs)
 | tup {cs:List AV} {vs:Array Value} (hl:vs.size=cs.length) (h:∀ (j:Nat) u v,cs[j]? = some u→vs[j]? = some v→V w β L u v):V w β L (.tup cs) (.tuple vs)
 | ptr {i off b:Nat} {t:TypeId} {cs:List AV} (hi:lk L i=some (.box t cs)) (h:β i=some b):V w β L (.ptr i off) (.pointer (some ⟨b,off,none⟩))
 | own {i ver k:Nat} {xs:List AV} {v:Value} (hd:D w (Ji w β L) (.list k xs) v)
   (hp:∃ t ver' hw,lk L i=some (.spare t k ver' hw)/\ver≤ver'/\(ver'=ver→hw=xs.length/\Jee w (Ji w β L) (β i) t k xs v)):V w β L (.own i ver k xs) v
 | ms {i off n cap b:Nat} {t:TypeId} {cs:List AV} (hi:lk L i=some (.box t cs)) (h:β i=some b) (hn:n≤cap) (hm:cap≤maxLen):V w β L (.ms i off n cap) (.slice (some ⟨b,off,none⟩) n cap)
 | it {i b n:Nat} {m:AV} {seen:List Nat} (hi:lk L i=some (.iter m n seen)) (h:β i=some b):V w β L (.it i) (.pointer (some ⟨b,0,none⟩))
 | vec {i ver k n:Nat} {v:Value} (hp:∃ t ver' xs,lk L i=some (.vec t k ver' xs)/\ver≤ver'/\(ver'=ver→n=xs.length/\Gb5 w (β i) t k n v)) (hv:v.oneCell'=true):V w β L (.vec i ver k n) v
 | vptr {i ver m f:Nat} {v:Value} (hp:∃ t k ver' xs,lk L i=some (.vec t k ver' xs)/\ver≤ver'/\(ver'=ver→∃ b,β i=some b/\v=.pointer (some ⟨b,m*k+f,none⟩))) (hv:v.oneCell'=true):V w β L (.vptr i ver m f) v
 | vsl {i ver k off n:Nat} {v:Value} (hp:∃ t ver' xs,lk L i=some (.vec t k ver' xs)/\ver≤ver'/\(ver'=ver→off+n≤xs.length/\G29 (β i) k off n v/\(off=0→Gb5 w (β i) t k n v))) (hv:v.oneCell'=true):V w β L (.vsl i ver k off n) v
 | vcap {i ver k n c:Nat} {v:Value} (hp:∃ t ver' xs,lk L i=some (.vec t k ver' xs)/\ver≤ver'/\(ver'=ver→G3c w (β i) t k n c v)) (hv:v.oneCell'=true):V w β L (.vcap i ver k n c) v
 | nst {i ver n t ver' hw:Nat} {pre:List AV} {last:AV} {v:Value} (vs:Array Value) (hi:lk L i=some (.spare t 1 ver' hw)) (hle:ver≤ver') (hr:ver'=ver→hw=0/\n=pre.length+(if n=0 then 0 else 1)/\J42 w (β i) t n v vs)
   (hpre:ver'=ver→∀ (j:Nat) u x,pre[j]? = some u→vs[j]? = some x→D w (Ji w β L) u x) (hlast:∀ x,ver'=ver→0 < n→vs[n - 1]? = some x→V w β L last x) (hv:v.oneCell'=true):V w β L (.nst i ver n pre last) v
 | nptr {i ver m t k ver' hw:Nat} {u:AV} {v:Value} (b:Nat) (vs:Array Value) (hi:lk L i=some (.spare t k ver' hw)) (hle:ver≤ver') (hr:ver'=ver→β i=some b/\v=.pointer (some ⟨b,m,none⟩)/\w.heap[b]? = some (.cells vs t (0,0))/\m < vs.size)
   (hu:∀ x,ver'=ver→vs[m]? = some x→V w β L u x) (hv:v.oneCell'=true):V w β L (.nptr i ver m u) v
 | mp {i b:Nat} {t:TypeId} {es:List (Value×AV)} (hi:lk L i=some (.map t es)) (h:β i=some b):V w β L (.mp i) (.map (some b))
 | fn {f:FuncId} {cs:List AV} {vs:Array Value} (hl:vs.size=cs.length) (h:∀ (j:Nat) u v,cs[j]? = some u→vs[j]? = some v→V w β L u v):V w β L (.fn f cs) (.func (.func f) #[] vs)
 | bfn {f:FuncId} {cs:List AV} {vs:Array Value} (hl:vs.size=cs.length) (h:∀ (j:Nat) u v,cs[j]? = some u→vs[j]? = some v→V w β L u v):V w β L (.bfn f cs) (.func (.func f) vs #[])
 | opt {c:Bool} {x:AV} {v:Value} (h:c=true→V w β L x v) (h0:c=false→v=undef):V w β L (.opt c x) v

theorem V.junk {w:World} {β:H4} {L:Loc} {v:Value}:V w β L .junk v:=.data .junk
theorem V.sc {w:World} {β:H4} {L:Loc} {v:Value}:V w β L (.sc v) v:=.data .sc

structure Step (w:World) (β:H4) (L:Loc) (w':World) (J':H4) (L':Loc):Prop where
 os:w'.os=w.os
 tape:w'.tape=w.tape
 output:w'.output=w.output/\w.drawn≤w'.drawn
 size:w.heap.size≤w'.heap.size
 hid:∀ b i,b < w.heap.size→(J'.hid b i ↔ β.hid b i)
 stab:∀ b i,Ji w β L b i→Ji w' J' L' b i/\Zb w' b i=Zb w b i
 far:∀ b,b < w.heap.size→(∀ id,(lk L id).isSome=true→β id≠some b)→w'.heap[b]? = w.heap[b]? /\ (∀ id,(lk L' id).isSome=true→J' id≠some b)
 box:∀ id t cs,lk L id=some (.box t cs)→J' id=β id/\∃ cs',lk L' id=some (.box t cs')
 map:∀ id t es,lk L id=some (.map t es)→J' id=β id/\∃ es',lk L' id=some (.map t es')
 iter:∀ id m n es,lk L id=some (.iter m n es)→J' id=β id/\∃ n' es',lk L' id=some (.iter m n' es')
 vec:∀ id t k ver xs,lk L id=some (.vec t k ver xs)→∃ ver' xs',lk L' id=some (.vec t k ver' xs')/\ver≤ver' /\
  (ver'=ver→xs'.length=xs.length/\J' id=β id/\∀ b,β id=some b→w'.shape? b=w.shape? b)
 spare:∀ id t k ver hw,lk L id=some (.spare t k ver hw)→∃ ver' hw',lk L' id=some (.spare t k ver' hw')/\ver≤ver' /\
  (ver'=ver→hw'=hw/\J' id=β id/\∀ b,β id=some b→w'.heap[b]? = w.heap[b]?)

structure nJ (w:World) (β:H4) (L:Loc) (w':World) (J':H4) (L':Loc):Prop where
 stab:∀ b i,Ji w β L b i→Ji w' J' L' b i/\Zb w' b i=Zb w b i
 box:∀ id t cs,lk L id=some (.box t cs)→J' id=β id/\∃ cs',lk L' id=some (.box t cs')
 map:∀ id t es,lk L id=some (.map t es)→J' id=β id/\∃ es',lk L' id=some (.map t es')
 iter:∀ id m n es,lk L id=some (.iter m n es)→J' id=β id/\∃ n' es',lk L' id=some (.iter m n' es')
 vec:∀ id t k ver xs,lk L id=some (.vec t k ver xs)→∃ ver' xs',lk L' id=some (.vec t k ver' xs')/\ver≤ver' /\
  (ver'=ver→xs'.length=xs.length/\J' id=β id/\∀ b,β id=some b→w'.shape? b=w.shape? b)
 spare:∀ id t k ver hw,lk L id=some (.spare t k ver hw)→∃ ver' hw',lk L' id=some (.spare t k ver' hw')/\ver≤ver' /\
  (ver'=ver→hw'=hw/\J' id=β id/\∀ b,β id=some b→w'.heap[b]? = w.heap[b]?)
theorem Step.weak {w w':World} {β J':H4} {L L':Loc} (h:Step w β L w' J' L'):nJ w β L w' J' L':=⟨h.stab,h.box,h.map,h.iter,h.vec,h.spare⟩

theorem Step.refl (w:World) (β:H4) (L:Loc):Step w β L w β L:=
 ⟨rfl,rfl,⟨rfl,Nat.le_refl _⟩,Nat.le_refl _,fun _ _ _=>Iff.rfl,fun _ _ h=>⟨h,rfl⟩,fun _ _ h=>⟨rfl,h⟩,fun _ _ cs h=>⟨rfl,cs,h⟩,fun _ _ es h=>⟨rfl,es,h⟩,fun _ _ n es h=>⟨rfl,n,es,h⟩,fun _ _ _ ver xs h=>⟨ver,xs,h,Nat.le_refl _,fun _=>⟨rfl,rfl,fun _ _=>rfl⟩⟩,fun _ _ _ ver hw h=>⟨ver,hw,h,Nat.le_refl _,fun _=>⟨rfl,rfl,fun _ _=>rfl⟩⟩⟩

theorem Step.trans {w w₁ w₂:World} {β J₁ J₂:H4} {L L₁ L₂:Loc} (h:Step w β L w₁ J₁ L₁) (k:Step w₁ J₁ L₁ w₂ J₂ L₂):Step w β L w₂ J₂ L₂ where
 os:=k.os.trans h.os
 tape:=k.tape.trans h.tape
 output:=⟨k.output.1.trans h.output.1,Nat.le_trans h.output.2 k.output.2⟩
 size:=Nat.le_trans h.size k.size
 hid:=fun b i hb=>(k.hid b i (Nat.lt_of_lt_of_le hb h.size)).trans (h.hid b i hb)
 stab:=fun b i hs=>by
  obtain⟨h1,h2⟩:=h.stab b i hs
  obtain⟨k1,k2⟩:=k.stab b i h1
  exact⟨k1,k2.trans h2⟩
 far:=fun b hb hf=>by
  obtain⟨h1,h2⟩:=h.far b hb hf
  obtain⟨k1,k2⟩:=k.far b (Nat.lt_of_lt_of_le hb h.size) h2
  exact⟨k1.trans h1,k2⟩
 box:=fun id t cs hi=>by
  obtain⟨h1,cs',h2⟩:=h.box id t cs hi
  obtain⟨k1,k2⟩:=k.box id t cs' h2
  exact⟨k1.trans h1,k2⟩
 map:=fun id t es hi=>by
  obtain⟨h1,es',h2⟩:=h.map id t es hi
  obtain⟨k1,k2⟩:=k.map id t es' h2
  exact⟨k1.trans h1,k2⟩
 iter:=fun id m n es hi=>by
  obtain⟨h1,n',es',h2⟩:=h.iter id m n es hi
  obtain⟨k1,k2⟩:=k.iter id m n' es' h2
  exact⟨k1.trans h1,k2⟩
 vec:=fun id t kk ver xs hi=>by
  obtain⟨v1,xs1,h1,h2,h3⟩:=h.vec id t kk ver xs hi
  obtain⟨v2,xs2,k1,k2,k3⟩:=k.vec id t kk v1 xs1 h1
  refine⟨v2,xs2,k1,Nat.le_trans h2 k2,fun e=>?_⟩
  obtain⟨a1,a2,a3⟩:=h3 (by omega)
  obtain⟨b1,b2,b3⟩:=k3 (by omega)
  exact⟨b1.trans a1,b2.trans a2,fun b hb=>(b3 b (a2.trans hb)).trans (a3 b hb)⟩
 spare:=fun id t kk ver hw hi=>by
  obtain⟨v1,hw1,h1,h2,h3⟩:=h.spare id t kk ver hw hi
  obtain⟨v2,h0,k1,k2,k3⟩:=k.spare id t kk v1 hw1 h1
  refine⟨v2,h0,k1,Nat.le_trans h2 k2,fun e=>?_⟩
  obtain⟨a1,a2,a3⟩:=h3 (by omega)
  obtain⟨b1,b2,b3⟩:=k3 (by omega)
  exact⟨b1.trans a1,b2.trans a2,fun b hb=>(b3 b (a2.trans hb)).trans (a3 b hb)⟩

theorem Ga5 {w w':World} {t k n:Nat} {v:Value} {vals:List Value} (h:w.ownsRow 0 t k v n vals) (hb:∀ b,v.ownBlock=some b→w'.heap[b]? = w.heap[b]?) :
  w'.ownsRow 0 t k v n vals:=by
 obtain⟨h1,h2⟩:=h
 refine⟨h1,?_⟩
 rcases h2 with h2 | ⟨g,cap,cur,hv,hg,hh,r⟩
 .exact .inl h2
 .exact .inr ⟨g,cap,cur,hv,hg,by rw [hb g (by rw [hv]; rfl)]; exact hh,r⟩

theorem V.stepW {w w':World} {β J':H4} {L L':Loc} {u:AV} {v:Value} (h:V w β L u v) (hs:nJ w β L w' J' L'):V w' J' L' u v:=by
 induction h with
 | data h=>exact .data (h.mono hs.stab)
 | agg hl _ ih=>exact .agg hl ih
 | tup hl _ ih=>exact .tup hl ih
 | ptr hi h=>
  obtain⟨h1,cs',h2⟩:=hs.box _ _ _ hi
  exact .ptr h2 (h1.trans h)
 | own hd hp=>
  obtain⟨t,ver',hw,hi,h7,hx⟩:=hp
  obtain⟨v2,h8,k1,k2,k3⟩:=hs.spare _ _ _ _ _ hi
  refine .own (hd.mono hs.stab) ⟨t,v2,h8,k1,by omega,fun e=>?_⟩
  obtain⟨a1,a2,vals,a3,a4⟩:=hx (by omega)
  obtain⟨b1,b2,b3⟩:=k3 (by omega)
  refine⟨b1.trans a1,a2.trans b2.symm,vals,Ga5 a3 (fun b hb=>b3 b (a2 ▸ hb)),fun j u hu=>?_⟩
  obtain⟨x,a0,a5⟩:=a4 j u hu
  exact⟨x,a0,a5.mono hs.stab⟩
 | ms hi h hn hm=>
  obtain⟨h1,cs',h2⟩:=hs.box _ _ _ hi
  exact .ms h2 (h1.trans h) hn hm
 | mp hi h=>
  obtain⟨h1,cs',h2⟩:=hs.map _ _ _ hi
  exact .mp h2 (h1.trans h)
 | it hi h=>
  obtain⟨h1,n',cs',h2⟩:=hs.iter _ _ _ _ hi
  exact .it h2 (h1.trans h)
 | vec hp hv=>
  obtain⟨t,ver',xs,hi,h7,hx⟩:=hp
  obtain⟨v2,xs2,k1,k2,k3⟩:=hs.vec _ _ _ _ _ hi
  refine .vec ⟨t,v2,xs2,k1,by omega,fun e=>?_⟩ hv
  obtain⟨a1,a2⟩:=hx (by omega)
  obtain⟨b1,b2,b3⟩:=k3 (by omega)
  refine⟨a1.trans b1.symm,?_⟩
  rw [b2]
  rcases a2 with h | ⟨b,cap,h1,h2,h3,h4,h5⟩
  .exact .inl h
  .exact .inr ⟨b,cap,h1,h2,h3,h4,(b3 b h2).trans h5⟩
 | vptr hp hv=>
  obtain⟨t,k,ver',xs,hi,h7,hx⟩:=hp
  obtain⟨v2,xs2,k1,k2,k3⟩:=hs.vec _ _ _ _ _ hi
  refine .vptr ⟨t,k,v2,xs2,k1,by omega,fun e=>?_⟩ hv
  obtain⟨b,hb,a6⟩:=hx (by omega)
  exact⟨b,(k3 (by omega)).2.1.trans hb,a6⟩
 | vsl hp hv=>
  obtain⟨t,ver',xs,hi,h7,hx⟩:=hp
  obtain⟨v2,xs2,k1,k2,k3⟩:=hs.vec _ _ _ _ _ hi
  refine .vsl ⟨t,v2,xs2,k1,by omega,fun e=>?_⟩ hv
  obtain⟨a1,a2⟩:=hx (by omega)
  obtain⟨b1,b2,b3⟩:=k3 (by omega)
  refine⟨by rw [b1]; exact a1,by rw [b2]; exact a2.1,fun h0=>?_⟩
  rw [b2]
  rcases a2.2 h0 with h | ⟨b,cap,h1,h2,h3,h4,h5⟩
  .exact .inl h
  .exact .inr ⟨b,cap,h1,h2,h3,h4,(b3 b h2).trans h5⟩
 | vcap hp hv=>
  obtain⟨t,ver',xs,hi,h7,hx⟩:=hp
  obtain⟨v2,xs2,k1,k2,k3⟩:=hs.vec _ _ _ _ _ hi
  refine .vcap ⟨t,v2,xs2,k1,by omega,fun e=>?_⟩ hv
  obtain⟨b1,b2,b3⟩:=k3 (by omega)
  rw [b2]
  rcases hx (by omega) with h | ⟨b,h1,h2,h3,h4,h5⟩
  .exact .inl h
  .exact .inr ⟨b,h1,h2,h3,h4,(b3 b h2).trans h5⟩
 | nst vs hi h7 hr h9 _ hv ih=>
  obtain⟨v2,h8,k1,k2,k3⟩:=hs.spare _ _ _ _ _ hi
  refine .nst vs k1 (by omega) (fun e=>?_) (fun e j u x hu hx=>(h9 (by omega) j u x hu hx).mono hs.stab) (fun x e h0 hx=>ih x (by omega) h0 hx) hv
  obtain⟨a1,a2,a3⟩:=hr (by omega)
  obtain⟨b1,b2,b3⟩:=k3 (by omega)
  refine⟨b1.trans a1,a2,?_⟩
  rw [b2]
  rcases a3 with h | ⟨b,cap,h1,h2,h3,h4,h5,h6⟩
  .exact .inl h
  .exact .inr ⟨b,cap,h1,h2,h3,h4,(b3 b h2).trans h5,h6⟩
 | nptr b vs hi h7 hr _ hv ih=>
  obtain⟨v2,h8,k1,k2,k3⟩:=hs.spare _ _ _ _ _ hi
  refine .nptr b vs k1 (by omega) (fun e=>?_) (fun x e hx=>ih x (by omega) hx) hv
  obtain⟨a1,a2,a3,a4⟩:=hr (by omega)
  obtain⟨b1,b2,b3⟩:=k3 (by omega)
  exact⟨b2.trans a1,a2,(b3 _ a1).trans a3,a4⟩
 | fn hl _ ih=>exact .fn hl ih
 | bfn hl _ ih=>exact .bfn hl ih
 | opt _ h0 ih=>exact .opt ih h0

theorem V.step {w w':World} {β J':H4} {L L':Loc} {u:AV} {v:Value} (h:V w β L u v) (hs:Step w β L w' J' L'):V w' J' L' u v:=h.stepW hs.weak

def MapAt (w:World) (S:Nat→Nat→Prop) (b:Nat) (es:List (Value×AV)):Prop:=
 ∃ (ents:Array MapEntry),w.heap[b]? = some (.map ents ents.size)/\ents.size=es.length /\
  (∀ (i:Nat) e k u,ents[i]? = some e→es[i]? = some (k,u)→e.key=k/\D w S u e.val/\e.born=i)

def Jec (w:World) (S:Nat→Nat→Prop) (b:Nat) (es:List (Value×AV)):Prop:=
 ∃ vals:List Value,vals.length=es.length/\w.heap[b]? = some (.map (Hbf 0 es vals).toArray es.length) /\
  ∀ (i:Nat) k u v,es[i]? = some (k,u)→vals[i]? = some v→isT u=false→D w S u v
def Gb8 (w:World) (S:Nat→Nat→Prop) (b t:Nat) (es:List (Value×AV)):Prop:=
 (Nat.blt t 1000000=true/\MapAt w S b es)\/(Nat.blt t 1000000=false/\Jec w S b es)
theorem Gb8.mono {w w':World} {S S':Nat→Nat→Prop} {b t:Nat} {es:List (Value×AV)} (h:Gb8 w S b t es) (hh:w'.heap[b]? = w.heap[b]?)
  (hs:∀ {u v},D w S u v→D w' S' u v):Gb8 w' S' b t es:=by
 rcases h with ⟨ht,ents,h1,h2,h3⟩ | ⟨ht,vals,h1,h2,h3⟩
 .exact .inl ⟨ht,ents,hh.trans h1,h2,fun i e k u he hu=>⟨(h3 i e k u he hu).1,hs (h3 i e k u he hu).2.1,(h3 i e k u he hu).2.2⟩⟩
 .exact .inr ⟨ht,vals,h1,hh.trans h2,fun i k u v he hv hu=>hs (h3 i k u v he hv hu)⟩

def iP (w:World) (β:H4) (L:Loc) (ob:Option Nat):Jn→Prop
 | .box t cs=>∃ b,ob=some b/\∃ vs:Array Value,w.heap[b]? = some (.cells vs t (0,0))/\vs.size=cs.length/\∀ (j:Nat) u v,cs[j]? = some u→vs[j]? = some v→V w β L u v
 | .spare t k _ hw=>(ob=none/\hw=0)\/∃ b,ob=some b/\∃ vs:Array Value,w.heap[b]? = some (.cells vs t (0,0))/\hw*k≤vs.size
 | .vec t k _ xs=>(∀ x∈xs,x.cells.length=k)/\((ob=none/\xs=[])\/∃ b,ob=some b/\∃ vs:Array Value,w.heap[b]? = some (.cells vs t (0,0))/\xs.length*k≤vs.size/\∀ (j:Nat) u v,(flat xs)[j]? = some u→vs[j]? = some v→D w (Ji w β L) u v)
 | .map t es=>∃ b,ob=some b/\Gb8 w (Ji w β L) b t es
 | .iter m n seen=>∃ b,ob=some b/\∃ bm,V w β L m (.map (some bm))/\w.heap[b]? = some (.mapIter (some bm) n seen.toArray n)
 | .pin t b cs=>ob=some b/\∃ vs:Array Value,w.heap[b]? = some (.cells vs t (0,0))/\vs.size=cs.length/\∀ (j:Nat) u v,cs[j]? = some u→vs[j]? = some v→D w (Ji w β L) u v

structure Sat (w:World) (β:H4) (L:Loc):Prop where
 hid:∀ b i,β.hid b i→b < w.heap.size
 bnd:∀ id b,(lk L id).isSome=true→β id=some b→b < w.heap.size
 apart:∀ id b j,(lk L id).isSome=true→β id=some b→¬ β.hid b j
 inj:∀ id id' b,(lk L id).isSome=true→(lk L id').isSome=true→β id=some b→β id'=some b→id=id'
 obj:∀ id o,lk L id=some o→iP w β L (β id) o

structure Jx (a:Act) (w:World) (β:H4) (L:Loc) (l:Fr):Prop where
 tmp:∀ t,V w β L (look l t) (a.tmps.getD t undef)

theorem Jx.stepW {a:Act} {w w':World} {β J':H4} {L L':Loc} {l:Fr} (h:Jx a w β L l) (hs:nJ w β L w' J' L'):Jx a w' J' L' l:=⟨fun t=>(h.tmp t).stepW hs⟩
theorem Jx.step {a:Act} {w w':World} {β J':H4} {L L':Loc} {l:Fr} (h:Jx a w β L l) (hs:Step w β L w' J' L'):Jx a w' J' L' l:=
 ⟨fun t=>(h.tmp t).step hs⟩

def ev (l:Fr):Operand→AV
 | .tmp t=>look l t
 | .const v=>.sc v
 | .global g=>.sc (.pointer (some ⟨g,0,none⟩))
 | .func f=>.fn f []

theorem Jx.ev {a:Act} {w:World} {β:H4} {L:Loc} {l:Fr} (h:Jx a w β L l) (x:Operand):V w β L (ev l x) (a.eval x):=by
 cases x with
 | tmp t=>exact h.tmp t
 | const v=>exact .sc
 | global g=>exact .sc
 | func f=>exact .fn rfl (fun j u v hu=>by simp at hu)

theorem pJ {a:Act} {d t:Nat} {v:Value} (hd:d < a.tmps.size):(a.put (some d) v).tmps.getD t undef=if d=t then v else a.tmps.getD t undef:=by
 simp only [Act.put,Array.getD_eq_getD_getElem?,Array.getElem?_setIfInBounds]
 split
 .subst_vars; simp
 .rfl

theorem Jx.put {a:Act} {w:World} {β:H4} {L:Loc} {l:Fr} {d:Nat} {u:AV} {v:Value} (h:Jx a w β L l) (hd:d < a.tmps.size) (hv:V w β L u v) :
  Jx (a.put (some d) v) w β L ((d,u)::l):=by
 refine⟨fun t=>?_⟩
 rw [pJ hd]
 by_cases e:d=t
 .subst e; simpa [look] using hv
 .have:Nat.beq d t=false:=by
   cases hb:Nat.beq d t with
   | false=>rfl
   | true=>exact absurd (Nat.eq_of_beq_eq_true hb) e
  simpa [look,this,e] using h.tmp t

structure kI (ro:Option Nat) (B:Nat) (w:World) (β:H4) (L:Loc) (ds:List Deferred):Prop where
 top:ro.isSome=true→ds=[]
 nodup:ds.Nodup
 each:∀ d∈ds,∃ D,d={ target:=.collected D,args:=#[] }/\B≤D/\w.heap[D]? = some (.deferred (some []))/\∀ id,(lk L id).isSome=true→β id≠some D
theorem kI.nil {ro:Option Nat} {B:Nat} {w:World} {β:H4} {L:Loc}:kI ro B w β L []:=⟨fun _=>rfl,List.nodup_nil,fun d hd=>(List.not_mem_nil hd).elim⟩
theorem kI.step {ro:Option Nat} {B:Nat} {w w':World} {β J':H4} {L L':Loc} {ds:List Deferred} (h:kI ro B w β L ds) (hs:Step w β L w' J' L'):kI ro B w' J' L' ds:=
 ⟨h.top,h.nodup,fun d hd=>by
  obtain⟨D,e,hB,hD,hL⟩:=h.each d hd
  have hf:=hs.far D (Array.getElem?_eq_some_iff.1 hD).1 hL
  exact⟨D,e,hB,hf.1.trans hD,hf.2⟩⟩
theorem kI.sub {ro:Option Nat} {B:Nat} {w:World} {β J':H4} {L L':Loc} {ds:List Deferred} (h:kI ro B w β L ds) (hs:∀ id D,(lk L' id).isSome=true→J' id=some D→∃ id',(lk L id').isSome=true/\β id'=some D):kI ro B w J' L' ds:=
 ⟨h.top,h.nodup,fun d hd=>by
  obtain⟨D,e,hB,hD,hL⟩:=h.each d hd
  exact⟨D,e,hB,hD,fun id hid he=>by
   obtain⟨id',h1,h2⟩:=hs id D hid he
   exact hL id' h1 h2⟩⟩

structure Ry (N:Cfg) (w0:World) (β0:H4) (L0:Loc) (a:Act) (w:World) (β:H4) (l:Fr) (L:Loc):Prop where
 sat:Sat w β L
 step:Step w0 β0 L0 w β L
 frame:Jx a w β L l
 size:N.n≤a.tmps.size
 base:∀ id,(lk L0 id).isSome=true→id∈N.base
 defers:kI N.ro w0.heap.size w β L a.defers

structure Post where
 norm:Fr→Loc→Prop
 ret:Fr→Loc→Prop
 exit:Nat→Fr→Loc→Prop

def Post.seq (Q:Post) (K:Fr→Loc→Prop):Post:=⟨K,Q.ret,Q.exit⟩
def Post.blk (Q:Post) (i:Nat):Post:=⟨Q.norm,Q.ret,fun j l L=>bif Nat.beq j i then Q.norm l L else Q.exit j l L⟩

def Post.out (Q:Post) (N:Cfg) (w0:World) (β0:H4) (L0:Loc):Exit→Act→World→Prop
 | .normal,a,w=>∃ β l L,Ry N w0 β0 L0 a w β l L/\Q.norm l L
 | .ret,a,w=>∃ β l L,Ry N w0 β0 L0 a w β l L/\Q.ret l L
 | .exit i,a,w=>∃ β l L,Ry N w0 β0 L0 a w β l L/\Q.exit i l L
 | _,_,_=>False

abbrev FR (ro:Option Nat):Fence:={ Fence.wide with round:=ro }
def dR (o:Oper):Bool:=match o.op with
 | .defer _=>false
 | _=>true
theorem J31 {o:Oper} (h:dR o=true):∀ c,o.op≠.defer c:=fun c e=>by unfold dR at h; rw [e] at h; cases h
theorem Heb {ro:Option Nat} {n:Nat} {P:Program} {row:String} {args:Array Value} {w:World} {R:Value→World→Prop} (h:Rows P row args w R):RowsIn (FR ro) n P row args w R:=
 fun c cs _=>let ⟨v,w',r,s⟩:=h c cs; ⟨v,w',r,stepsIn_wide.2 s⟩
theorem gM {ro:Option Nat} {n:Nat} {P:Program} {o:Oper} {a:Act} {w:World} {K:Act→World→Prop} {Q:Exit→Act→World→Prop} (hn:dR o=true) (h:o.wp P a w K Q):o.wpIn (FR ro) n P a w K Q:=by
 refine⟨fun _ _=>trivial,?_⟩
 rw [Oper.semAt_eq _ _ _ (J31 hn)]
 unfold Oper.wp at h
 generalize (execOp a.eval o).run P w=r at h
 cases r with
 | ok x w'=>
  cases x <;> simp only [Oper.upon,Oper.uponIn] at h ⊢ <;>
   first
    | exact h
    | exact⟨fun e=>(by cases e),callsIn_wide.2 h⟩
    | exact⟨fun e=>(by cases e),Heb h⟩
    | exact h.elim
 | halt x w'=>cases x <;> simp only [Oper.upon,Oper.uponIn] at h ⊢ <;> exact h
theorem jR {ro:Option Nat} {n:Nat} {P:Program} {ops:Array Oper} {o:Oper} {rest:List Oper} {a:Act} {w:World} {Q:Exit→Act→World→Prop} (hg:o.guard=none) (hn:dR o=true)
  (h:∀ K:Act→World→Prop,(∀ a w,wpListIn (FR ro) n P ops Q rest a w→K a w)→o.wp P a w K Q):wpListIn (FR ro) n P ops Q (o::rest) a w:=
 wpListIn_plain hg fun K hK=>gM hn (h K hK)

def JC (P:Program) (N:Cfg) (c:Code) (Q:Post) (l:Fr) (L:Loc):Prop:=
 ∀ (n:Nat) w0 β0 L0 a w β,Ry N w0 β0 L0 a w β l L→c.wpIn (FR N.ro) n P (Q.out N w0 β0 L0) a w

def JL (P:Program) (N:Cfg) (ops:Array Oper) (rest:List Oper) (Q:Post) (l:Fr) (L:Loc):Prop:=
 ∀ (n:Nat) w0 β0 L0 a w β,Ry N w0 β0 L0 a w β l L→wpListIn (FR N.ro) n P ops (Q.out N w0 β0 L0) rest a w

section code
variable {P:Program} {N:Cfg} {Q:Post} {l:Fr} {L:Loc}

theorem G4 {x y:Code} (h:∀ K:Fr→Loc→Prop,(∀ l L,JC P N y Q l L→K l L)→JC P N x (Q.seq K) l L):JC P N (.seq x y) Q l L:=
 fun n w0 β0 L0 a w β hs=>wpIn_seq (Code.wpIn_mono (fun e a' w' q=>by
  cases e with
  | normal=>obtain⟨J',l',L',h0,hq⟩:=q; exact hq n w0 β0 L0 a' w' J' h0
  | exit i=>exact q
  | ret=>exact q
  | goto l=>exact q
  | panic c=>exact q
  | outgrown=>exact q) (h (fun l L=>JC P N y Q l L) (fun _ _ h=>h) n w0 β0 L0 a w β hs))

theorem Gn (h:Q.norm l L):JC P N .skip Q l L:=fun _ _ _ _ _ _ β hs=>wpIn_skip ⟨β,l,L,hs,h⟩
theorem Gs (h:Q.ret l L):JC P N .ret Q l L:=fun _ _ _ _ _ _ β hs=>wpIn_ret ⟨β,l,L,hs,h⟩
theorem H9 {i:Nat} (h:Q.exit i l L):JC P N (.exit i) Q l L:=fun _ _ _ _ _ _ β hs=>wpIn_exit ⟨β,l,L,hs,h⟩

theorem V.inv_sc {w:World} {β:H4} {v x:Value} (h:V w β L (.sc v) x):x=v:=by
 cases h with
 | data h=>cases h; rfl

theorem Gg {c:Operand} {x y:Code} {b:Bool} (hc:ev l c=.sc (.bool b)) (ht:b=true→JC P N x Q l L) (hf:b=false→JC P N y Q l L):JC P N (.cond c x y) Q l L:=
 fun n w0 β0 L0 a w β hs=>by
  have hv:=hs.frame.ev c
  rw [hc] at hv
  exact wpIn_cond_split hv.inv_sc (fun e=>ht e n w0 β0 L0 a w β hs) (fun e=>hf e n w0 β0 L0 a w β hs)

theorem Gf {i:Nat} {c:Code} (h:JC P N c (Q.blk i) l L):JC P N (.block i c) Q l L:=
 fun n w0 β0 L0 a w β hs=>wpIn_block (Code.wpIn_mono (fun e a' w' q=>by
  cases e with
  | normal=>exact q
  | exit j=>
   obtain⟨J',l',L',h0,hq⟩:=q
   simp only [Exit.inBlock]
   by_cases e:j=i
   .subst e
    simp only [if_true]
    exact⟨J',l',L',h0,by simpa [Post.blk] using hq⟩
   .have hb:Nat.beq j i=false:=by
     cases hb:Nat.beq j i with
     | false=>rfl
     | true=>exact absurd (Nat.eq_of_beq_eq_true hb) e
    simp only [if_neg e]
    exact⟨J',l',L',h0,by simpa [Post.blk,e] using hq⟩
  | ret=>exact q
  | goto l=>exact q
  | panic c=>exact q
  | outgrown=>exact q) (h n w0 β0 L0 a w β hs))

theorem G1 {id:Nat} {ops:List Oper} (h:JL P N ops.toArray ops Q l L):JC P N (.region id ops.toArray false) Q l L:=
 fun n w0 β0 L0 a w β hs=>wpIn_region_lit (h n w0 β0 L0 a w β hs)

theorem G5 {ops:Array Oper} (h:Q.norm l L):JL P N ops [] Q l L:=
 fun _ _ _ _ _ _ β hs=>⟨β,l,L,hs,h⟩
end code

def H2 (P:Program) (o:Oper) (l:Fr) (L:Loc) (R:AV→Loc→Prop):Prop:=
 ∀ (a:Act) (w:World) (β:H4) (K:Act→World→Prop) (Q:Exit→Act→World→Prop),Sat w β L→Jx a w β L l →
  (∀ u L' v w' J',R u L'→Sat w' J' L'→Step w β L w' J' L'→V w' J' L' u v→K (a.put o.dst v) w')→o.wp P a w K Q

theorem Act.put_defers' (a:Act) (x:Option Tmp) (v:Value):(a.put x v).defers=a.defers:=by cases x <;> rfl
theorem Act.put_size (a:Act) (x:Option Tmp) (v:Value):(a.put x v).tmps.size=a.tmps.size:=by cases x <;> simp [Act.put]

section ops
variable {P:Program} {N:Cfg} {Q:Post} {l:Fr} {L:Loc} {ops:Array Oper} {o:Oper} {rest:List Oper} {R:AV→Loc→Prop}

theorem uV {d:Nat} (hg:o.guard=none) (hd:o.dst=some d) (hn:Nat.blt d N.n=true) (h:H2 P o l L R)
  (hk:∀ u L',R u L'→JL P N ops rest Q ((d,u)::l) L') (h2:dR o=true:=by rfl):JL P N ops (o::rest) Q l L:=by
 intro n w0 β0 L0 a w β hs
 refine jR hg h2 fun K hK=>h a w β K _ hs.sat hs.frame ?_
 intro u L' v w' J' hr h1 h0 hv
 have h3:d < a.tmps.size:=Nat.lt_of_lt_of_le (by simpa [Nat.blt_eq] using hn) hs.size
 rw [hd]
 refine hK _ _ (hk u L' hr n w0 β0 L0 _ w' J' ⟨h1,hs.step.trans h0,(hs.frame.step h0).put h3 hv,by rw [Act.put_size]; exact hs.size,hs.base,by rw [Act.put_defers']; exact hs.defers.step h0⟩)

theorem H3b (hg:o.guard=none) (hd:o.dst=none) (h:H2 P o l L R)
  (hk:∀ u L',R u L'→JL P N ops rest Q l L') (h2:dR o=true:=by rfl):JL P N ops (o::rest) Q l L:=by
 intro n w0 β0 L0 a w β hs
 refine jR hg h2 fun K hK=>h a w β K _ hs.sat hs.frame ?_
 intro u L' v w' J' hr h1 h0 hv
 rw [hd]
 exact hK _ _ (hk u L' hr n w0 β0 L0 _ w' J' ⟨h1,hs.step.trans h0,hs.frame.step h0,hs.size,hs.base,hs.defers.step h0⟩)

end ops

def Is (u:AV) (L:Loc):AV→Loc→Prop:=fun u' L'=>u'=u/\L'=L

section ops
variable {P:Program} {N:Cfg} {Q:Post} {l:Fr} {L L':Loc} {ops:Array Oper} {o:Oper} {rest:List Oper} {u:AV}

theorem G0 {d:Nat} (h:H2 P o l L (Is u L')) (hk:JL P N ops rest Q ((d,u)::l) L') (hg:o.guard=none:=by rfl) (hd:o.dst=some d:=by rfl) (hn:Nat.blt d N.n=true:=by rfl) (h0:dR o=true:=by rfl) :
  JL P N ops (o::rest) Q l L:=uV hg hd hn h (fun _ _ e=>by obtain⟨rfl,rfl⟩:=e; exact hk) h0

theorem JLg (v:AV) {d:Nat} (h:H2 P o l L (Is v L')) (hk:JL P N ops rest Q ((d,v)::l) L') (hg:o.guard=none:=by rfl) (hd:o.dst=some d:=by rfl) (hn:Nat.blt d N.n=true:=by rfl) (h0:dR o=true:=by rfl) :
    JL P N ops (o::rest) Q l L:=G0 h hk hg hd hn h0
theorem JLh (v:AV) {d:Nat} (h:H2 P o l L (Is v L')) (hd:o.dst=some d) (hk:JL P N ops rest Q ((d,v)::l) L') (hg:o.guard=none:=by rfl) (hn:Nat.blt d N.n=true:=by rfl) (h0:dR o=true:=by rfl) :
    JL P N ops (o::rest) Q l L:=G0 h hk hg hd hn h0
theorem G.{uu} {J:Sort uu} {a:J}:a=a:=rfl
theorem U:True:=trivial
theorem J7 (h:H2 P o l L (Is u L')) (hk:JL P N ops rest Q l L') (hg:o.guard=none:=by rfl) (hd:o.dst=none:=by rfl) (h0:dR o=true:=by rfl) :
  JL P N ops (o::rest) Q l L:=H3b hg hd h (fun _ _ e=>by obtain⟨rfl,rfl⟩:=e; exact hk) h0

end ops

def Rb (P:Program) (f:FuncId) (args:List AV) (L0:Loc) (R:AV→Loc→Prop):Prop:=
 ∀ (w:World) (β:H4) (vs:Array Value),Sat w β L0→vs.size=args.length→(∀ (j:Nat) u v,args[j]? = some u→vs[j]? = some v→V w β L0 u v) →
  Calls P f vs w fun e w'=>∃ v r J' L',e=.returned v/\Sat w' J' L'/\Step w β L0 w' J' L'/\V w' J' L' r v/\R r L'

end Go.Proofs.YthkihfoleenlmaaGreat
