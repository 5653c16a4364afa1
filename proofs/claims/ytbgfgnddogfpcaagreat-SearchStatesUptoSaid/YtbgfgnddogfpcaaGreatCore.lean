/- The ground of all proofs here: -/
import Derived.WalkKit
import Derived.ProofKit
import Derived.OpenShut
import Derived.KernelRfl
import Derived.Laws.CopyRow
import Derived.Laws.OwnMore
import Derived.Laws.AppendOwnNone
import Derived.OrdersIn
import Derived.TacticsIn
import Derived.RangeFuncNested
import Derived.RangeFuncLeaves
set_option linter.unusedVariables false
namespace Go.Proofs.YtbgfgnddogfpcaaGreat
abbrev AM:=List Oper
abbrev AK:=List Value
abbrev AI:=List Nat
abbrev AE:=List Int
theorem zF.{uu} {W:Sort uu} {b c:W} (h:b=c:=by kernel_rfl):b=c:=h
theorem zK.{uu} {W:Type uu} {b c:W} (h:b=c:=by kernel_rfl):some b=some c:=congrArg some h
variable {W:Type}
theorem Ny {x:Option W}:x.isSome=true->∃ a,x=some a:=Option.isSome_iff_exists.1
variable {i:Nat}
theorem Nz {l:Array W} {a:W}:l[i]?=some a->∃ h:i<l.size,l[i]=a:=Array.getElem?_eq_some_iff.1
variable {k n:Nat}
theorem P0 {m:Nat}:n<m->m<=k->n<k:=Nat.lt_of_lt_of_le
theorem P1 {l:List W}:l.length=0->l=[]:=List.eq_nil_of_length_eq_zero
theorem P2 {m:Nat}:Nat.beq n m=true->n=m:=Nat.eq_of_beq_eq_true
theorem P3 (p:W->Bool) (l:List W):(l.filter p).length<=l.length:=List.length_filter_le p l
theorem P4 (a b:Nat):a<b\/a>=b:=Nat.lt_or_ge a b
abbrev P5:ByteArray:=ByteArray.empty
variable {p:Prop}
theorem P6 [Decidable p]:decide p=true->p:=of_decide_eq_true
theorem P7 [Decidable p]:decide p=false->¬p:=of_decide_eq_false
theorem P8 [Decidable p]:p->decide p=true:=decide_eq_true
theorem P9 [Decidable p]:¬p->decide p=false:=decide_eq_false
theorem Pa {l:List W} {a:W}:l[i]?=some a->∃ h:i<l.length,l[i]=a:=List.getElem?_eq_some_iff.1
theorem Pb {l:List W} (h:i<l.length):l[i]?=some l[i]:=List.getElem?_eq_getElem h
theorem Pc {a b:W}:some a=some b->a=b:=Option.some.inj
theorem Pd {l:List W} {a:W}:l[i]?=some a->a∈l:=List.mem_of_getElem?
theorem Pe {a:W}:¬a∈([]:List W):=List.not_mem_nil
theorem Pf:n<=n:=Nat.le_refl n
theorem Pg {a b:List W} (h:a.length<=i):(a++b)[i]?=b[i-a.length]?:=List.getElem?_append_right h
theorem Ph {a b:List W} (h:n<a.length):(a++b)[n]?=a[n]?:=List.getElem?_append_left h
theorem Pi {a:W} {l:List W}:(a::l).length=l.length+1:=rfl
theorem Pj {U:Type} {f:W->U} {l:List W} :(l.map f)[i]?=(l[i]?).map f:=List.getElem?_map
theorem Pk {l:List W} {j:Nat}:(l.take i)[j]?=if j<i then l[j]? else none:=List.getElem?_take
theorem Pm {l:List W} {j:Nat}:(l.drop i)[j]?=l[i+j]?:=List.getElem?_drop
theorem Pn {a b:List W}:(a++b).length=a.length+b.length:=List.length_append
theorem Po {a:W}:[a].length=1:=rfl
theorem Pp (a b:Bool):((a&&b)=true)=(a=true/\b=true):=Bool.and_eq_true a b
theorem Pq [Decidable p]:(decide p=true)=p:=decide_eq_true_eq
theorem Pr {U:Type} {l:List W} (f:W->U):(l.map f).length=l.length:=List.length_map f
theorem Ps {a:W} {s t:List W}:a∈s++t↔a∈s\/a∈t:=List.mem_append
theorem Pt {U:Type} {b:U} {f:W->U} {l:List W}:b∈l.map f↔∃ a∈l,f a=b:=List.mem_map
theorem Pu {a b:W}:a∈[b]↔a=b:=List.mem_singleton
theorem Pv {a b:W} {l:List W}:a∈b::l↔a=b\/a∈l:=List.mem_cons
theorem Pw {p:W->Bool} {a:W} {l:List W}:a∈l.filter p↔a∈l/\p a=true:=List.mem_filter
theorem Px (a b:Bool):((a||b)=true)=(a=true\/b=true):=Bool.or_eq_true a b
theorem Py {a b:Bool}:(a||b)=false↔a=false/\b=false:=Bool.or_eq_false_iff
abbrev Nx (n:Int):Value:=.int .i64 n
open Go.RowKit

inductive AV where
 | AL
 | sc (v:Value)
 | agg (cs:List AV)
 | tup (cs:List AV)
 | list (k:Nat) (xs:List AV)
 | GY (cs:List AV)
 | ptr (i off:Nat)
 | own (i ver k:Nat) (xs:List AV)
 | ms (i off n cap:Nat)
 | mp (i:Nat)
 | it (i:Nat)
 | vec (i ver k n:Nat)
 | fn (f:FuncId) (AZ:List AV)
 | bfn (f:FuncId) (firsts:List AV)
 | opt (c:Bool) (x:AV)
 | BO (i ver m f:Nat)
 | vsl (i ver k off n:Nat)
 | vcap (i ver k n c:Nat)
 | nst (i ver n:Nat) (pre:List AV) (last:AV)
 | nptr (i ver m:Nat) (u:AV)
 | lst (k:Nat) (xs ys:List AV)
 | dmap (es:List (Value×AV))
 | bag (k:Nat) (xs:List AV)
 | blk (o:Option (Nat×Nat)) (t k:Nat) (u:AV)
 | frz (t k:Nat) (u:AV)

abbrev AD:=List AV
def AV.cells:AV->AD
 | .agg cs=>cs
 | v=>[v]

def flat:AD->AD
 | []=>[]
 | x::r=>x.cells++flat r

def AV.isCell:AV->Bool
 | .sc v=>v.oneCell'
 | .list .. | .GY .. | .ptr .. | .own .. | .ms .. | .mp .. | .it .. | .vec .. | .fn .. | .bfn .. | .BO .. | .vsl .. | .vcap .. | .nst .. | .nptr .. | .lst .. | .dmap .. | .blk .. | .frz ..=>true
 | _=>false

inductive Jb where
 | box (t:TypeId) (cs:AD)
 | spare (t k ver hw:Nat)
 | vec (t k ver:Nat) (xs:AD)
 | map (t:TypeId) (es:List (Value×AV))
 | iter (m:AV) (n:Nat) (seen:AI)
 | pin (t:TypeId) (b:Nat) (cs:AD)

def Jb.keeps:Jb->Nat->Prop
 | .spare _ k _ hw,i=>i < hw*k
 | _,_=>False

abbrev Loc:=List (Nat×Jb)
abbrev Fr:=List (Nat×AV)

def lk:Loc->Nat->Option Jb
 | [],_=>none
 | (i,o)::r,j=>bif Nat.beq i j then some o else lk r j

def look:Fr->Nat->AV
 | [],_=>.AL
 | (i,o)::r,j=>bif Nat.beq i j then o else look r j

structure Gx where
 at_:Nat->Option Nat
 hid:Nat->Nat->Prop

instance:CoeFun Gx (fun _=>Nat->Option Nat):=⟨Gx.at_⟩

structure Hs (w:World) (U:Gx) (L:Loc) (b i:Nat):Prop where
 lt:b < w.heap.size
 seen:¬ U.hid b i
 kept:∀ id o,lk L id=some o->U id=some b->o.keeps i

structure Cfg where
 n:Nat
 base:AI
 ro:Option Nat

def isT:AV->Bool
 | .tup []=>true
 | _=>false
def J3d:Nat->List (Value×AV)->AK->List MapEntry
 | i,p::es,v::vs=>if isT p.2 then J3d (i+1) es vs else ⟨p.1,v,i⟩::J3d (i+1) es vs
 | _,_,_=>[]
def Gd3 (w:World) (b:Nat):Option (Array MapEntry×Nat):=match w.heap[b]? with
 | some (.map ents n)=>some (ents,n)
 | _=>none
def ZR (w:World) (b:Nat):Option (Nat×TypeId×(Nat×Nat)):=match w.heap[b]? with
 | some (.cells vs t f)=>some (vs.size,t,f)
 | _=>none
def Qf (w:World) (b i:Nat):Option Value×Option (Array MapEntry×Nat)×Option (Nat×TypeId×(Nat×Nat)):=(w.cell? ⟨b,i,none⟩,Gd3 w b,bif (w.cell? ⟨b,i,none⟩).isNone then ZR w b else none)
variable {b:Nat} {w w':World}
theorem Jc (h:w'.heap[b]? = w.heap[b]?):Qf w' b i=Qf w b i:=by
 unfold Qf Gd3 ZR; rw [h,World.cell?_of_block (w:=w) h]
theorem qL (h:Qf w' b i=Qf w b i):w'.cell? ⟨b,i,none⟩=w.cell? ⟨b,i,none⟩:=congrArg Prod.fst h
theorem G57 {ents:Array MapEntry} :Gd3 w b=some (ents,n) ↔ w.heap[b]? = some (.map ents n):=by
 unfold Gd3;cases h:w.heap[b]? with
 | none=>simp
 | some o=>cases o <;> simp
theorem J7d (h:Qf w' b i=Qf w b i) {ents:Array MapEntry} (hm:w.heap[b]? = some (.map ents n)):w'.heap[b]? = some (.map ents n):=
 G57.1 ((congrArg (fun q=>q.2.1) h).trans (G57.2 hm))
theorem Ga8 (h:w'.cell? ⟨b,i,none⟩=w.cell? ⟨b,i,none⟩) (hs:(w.cell? ⟨b,i,none⟩).isSome=true) {vs vs':Array Value} {t t':TypeId} {f f':Nat×Nat} (h1:w.heap[b]? = some (.cells vs t f)) (h2:w'.heap[b]? = some (.cells vs' t' f')):Qf w' b i=Qf w b i:=by
 have hn:(w.cell? ⟨b,i,none⟩).isNone=false:=by
  cases hc:w.cell? ⟨b,i,none⟩ with
  | none=>rw [hc] at hs; cases hs
  | some x=>rfl
 unfold Qf Gd3; rw [h,h1,h2,hn]; rfl
theorem Ge0 (h:∀ i,Qf w' b i=Qf w b i) {vs:Array Value} {t:TypeId} {f:Nat×Nat} (hb:w.heap[b]? = some (.cells vs t f)):w'.heap[b]? = some (.cells vs t f):=by
 have hc:∀ i,w.cell? ⟨b,i,none⟩=vs[i]? := fun i=>by simp [World.cell?,hb]
 have h0:=h vs.size;have hz:w.cell? ⟨b,vs.size,none⟩=none:=by rw [hc]; simp
 have h1:=(qL h0).trans hz;have hk:ZR w' b=ZR w b:=by
  have:=congrArg (fun q=>q.2.2) h0;simpa [Qf,hz,h1] using this
 have h2:ZR w b=some (vs.size,t,f):=by unfold ZR; rw [hb]
 rw [h2] at hk;unfold ZR at hk;cases hw:w'.heap[b]? with
 | none=>rw [hw] at hk; cases hk
 | some o=>
  rw [hw] at hk;cases o with
  | cells vs' t' f'=>
   simp only [Option.some.injEq,Prod.mk.injEq] at hk;obtain⟨e1,e2,e3⟩:=hk;subst e2 e3;have h3:∀ i,w'.cell? ⟨b,i,none⟩=vs'[i]? := fun i=>by simp [World.cell?,hw]
   have:vs'=vs:=Array.ext_getElem? fun i=>by rw [<- h3,<- hc,qL (h i)]
   rw [this]
  | _=>cases hk

def Ha0 (w:World) (S:Nat->Nat->Prop) (t k:Nat) (o:Option (Nat×Nat)) (v:Value):Prop:=
 (o=none/\v=.slice none 0 0)\/∃ b c n,∃ vs:Array Value,o=some (b,c)/\v=.slice (some ⟨b,0,none⟩) n c/\n<=c/\c<=maxLen/\w.heap[b]? = some (.cells vs t (0,0))/\vs.size=c*k/\∀ i,S b i
def jK (os:List (Option (Nat×Nat))):AI:=os.filterMap fun o=>o.map Prod.fst
def J4c (w:World) (S:Nat->Nat->Prop) (t k:Nat) (v:Value):Prop:=
 ∃ (xs:AK) (os:List (Option (Nat×Nat))),os.length=xs.length/\(∀ (j:Nat) o x,os[j]? = some o->xs[j]? = some x->Ha0 w S t k o x)/\(jK os).Nodup /\
  ((v=.slice none 0 0/\xs=[])\/∃ b0 cap,∃ vs:Array Value,∃ t0 f0,v=.slice (some ⟨b0,0,none⟩) xs.length cap/\xs.length<=cap/\cap<=maxLen/\w.heap[b0]? = some (.cells vs t0 f0)/\(∀ j,j < xs.length->vs[j]? = xs[j]?)/\(∀ i,S b0 i)/\b0 ∉ jK os)
variable {t:Nat} {S S':Nat->Nat->Prop} {v:Value}
theorem Ha0.mono {o:Option (Nat×Nat)} (h:Ha0 w S t k o v) (hs:∀ b i,S b i->S' b i/\Qf w' b i=Qf w b i):Ha0 w' S' t k o v:=by
 rcases h with h | ⟨b,c,n,vs,h1,h2,h3,h4,h5,h6,h7⟩
 .exact .inl h
 .exact .inr ⟨b,c,n,vs,h1,h2,h3,h4,Ge0 (fun i=>(hs b i (h7 i)).2) h5,h6,fun i=>(hs b i (h7 i)).1⟩
theorem J4c.mono (h:J4c w S t k v) (hs:∀ b i,S b i->S' b i/\Qf w' b i=Qf w b i):J4c w' S' t k v:=by
 obtain⟨xs,os,h1,h2,h3,h4⟩:=h;refine⟨xs,os,h1,fun j o x ho hx=>(h2 j o x ho hx).mono hs,h3,?_⟩;rcases h4 with h4 | ⟨b0,cap,vs,t0,f0,g1,g2,g3,g4,g5,g6,g7⟩
 .exact .inl h4
 .exact .inr ⟨b0,cap,vs,t0,f0,g1,g2,g3,Ge0 (fun i=>(hs b0 i (g6 i)).2) g4,g5,fun i=>(hs b0 i (g6 i)).1,g7⟩

inductive D (w:World) (S:Nat->Nat->Prop):AV->Value->Prop
 | AL {v:Value}:D w S .AL v
 | sc {v:Value}:D w S (.sc v) v
 | agg {cs:AD} {vs:Array Value} (hl:vs.size=cs.length) (h:∀ (j:Nat) u v,cs[j]? = some u->vs[j]? = some v->D w S u v):D w S (.agg cs) (.agg vs)
 | tup {cs:AD} {vs:Array Value} (hl:vs.size=cs.length) (h:∀ (j:Nat) u v,cs[j]? = some u->vs[j]? = some v->D w S u v):D w S (.tup cs) (.tuple vs)
 | nil {k cap:Nat} {a:Option Addr} (h:cap<=maxLen):D w S (.list k []) (.slice a 0 cap)
 | list {k b off cap:Nat} {xs:AD} (vals:Nat->Value) (hcap:xs.length<=cap) (hm:cap<=maxLen) (hk:∀ x∈xs,x.cells.length=k)
   (hS:∀ j,j < (flat xs).length->S b (off+j)/\w.cell? ⟨b,off+j,none⟩=some (vals j))
   (h:∀ (j:Nat) u,(flat xs)[j]? = some u->D w S u (vals j)):D w S (.list k xs) (.slice (some ⟨b,off,none⟩) xs.length cap)
 | lnil {k cap:Nat} {a:Option Addr} (h:cap<=maxLen):D w S (.lst k [] []) (.slice a 0 cap)
 | lst {k b off cap:Nat} {xs ys:AD} (vals:Nat->Value) (hcap:xs.length+ys.length<=cap) (hm:cap<=maxLen) (hk:∀ x∈xs++ys,x.cells.length=k)
   (hS:∀ j,j < (flat (xs++ys)).length->S b (off+j)/\w.cell? ⟨b,off+j,none⟩=some (vals j))
   (h:∀ (j:Nat) u,(flat (xs++ys))[j]? = some u->D w S u (vals j)):D w S (.lst k xs ys) (.slice (some ⟨b,off,none⟩) xs.length cap)
 | GY {b off:Nat} {cs:AD} (vals:Nat->Value)
   (hS:∀ j,j < cs.length->S b (off+j)/\w.cell? ⟨b,off+j,none⟩=some (vals j))
   (h:∀ (j:Nat) u,cs[j]? = some u->D w S u (vals j)):D w S (.GY cs) (.pointer (some ⟨b,off,none⟩))
 | fn {f:FuncId} {cs:AD} {vs:Array Value} (hl:vs.size=cs.length) (h:∀ (j:Nat) u v,cs[j]? = some u->vs[j]? = some v->D w S u v):D w S (.fn f cs) (.func (.func f) #[] vs)
 | bfn {f:FuncId} {cs:AD} {vs:Array Value} (hl:vs.size=cs.length) (h:∀ (j:Nat) u v,cs[j]? = some u->vs[j]? = some v->D w S u v):D w S (.bfn f cs) (.func (.func f) vs #[])
 | opt {c:Bool} {x:AV} {v:Value} (h:c=true->D w S x v) (h0:c=false->v=undef):D w S (.opt c x) v
 | dmap {b:Nat} {es:List (Value×AV)} (vals:AK) (hl:vals.length=es.length) (hw:w.heap[b]? = some (.map (J3d 0 es vals).toArray es.length)) (hS:∀ i,S b i)
   (h:∀ (i:Nat) k u v,es[i]? = some (k,u)->vals[i]? = some v->isT u=false->D w S u v):D w S (.dmap es) (.map (some b))
 | bag {k:Nat} {xs ys:AD} {v:Value} (hp:ys.Perm xs) (h:D w S (.list k ys) v):D w S (.bag k xs) v
 | blk {o:Option (Nat×Nat)} {t k:Nat} {u:AV} {v:Value} (hb:Ha0 w S t k o v) (h:D w S u v):D w S (.blk o t k u) v
 | frz {t k:Nat} {u:AV} {v:Value} (hf:J4c w S t k v) (h:D w S u v):D w S (.frz t k u) v

variable {u:AV}
theorem D.mono (h:D w S u v)
  (hs:∀ b i,S b i->S' b i/\Qf w' b i=Qf w b i):D w' S' u v:=by
 induction h with
 | AL=>exact .AL
 | sc=>exact .sc
 | agg hl _ ih=>exact .agg hl ih
 | tup hl _ ih=>exact .tup hl ih
 | nil h=>exact .nil h
 | list vals h1 hm hk hS _ ih=>exact .list vals h1 hm hk (fun j hj=>⟨(hs _ _ (hS j hj).1).1,(qL (hs _ _ (hS j hj).1).2).trans (hS j hj).2⟩) ih
 | lnil h=>exact .lnil h
 | lst vals h1 hm hk hS _ ih=>exact .lst vals h1 hm hk (fun j hj=>⟨(hs _ _ (hS j hj).1).1,(qL (hs _ _ (hS j hj).1).2).trans (hS j hj).2⟩) ih
 | GY vals hS _ ih=>exact .GY vals (fun j hj=>⟨(hs _ _ (hS j hj).1).1,(qL (hs _ _ (hS j hj).1).2).trans (hS j hj).2⟩) ih
 | fn hl _ ih=>exact .fn hl ih
 | bfn hl _ ih=>exact .bfn hl ih
 | opt _ h0 ih=>exact .opt ih h0
 | dmap vals hl hw hS _ ih=>exact .dmap vals hl (J7d (hs _ _ (hS 0)).2 hw) (fun i=>(hs _ _ (hS i)).1) ih
 | bag hp _ ih=>exact .bag hp ih
 | blk hb _ ih=>exact .blk (hb.mono hs) ih
 | frz hf _ ih=>exact .frz (hf.mono hs) ih

def Q99 (w:World) (S:Nat->Nat->Prop) (ob:Option Nat) (t k:Nat) (xs:AD) (v:Value):Prop:=
 v.ownBlock=ob/\∃ vals:AK,w.ownsRow 0 t k v xs.length vals/\∀ (j:Nat) u,(flat xs)[j]? = some u->∃ x,vals[j]? = some x/\D w S u x

def RX (w:World) (ob:Option Nat) (t k n:Nat) (v:Value):Prop:=
 (v=.slice none 0 0/\n=0/\ob=none)\/∃ b cap,v=.slice (some ⟨b,0,none⟩) n cap/\ob=some b/\n<=cap/\cap<=maxLen/\w.shape? b=some (t,cap*k)

def G6d (ob:Option Nat) (k off n:Nat) (v:Value):Prop:=
 ∃ a cap,v=.slice a n cap/\n<=cap/\cap<=maxLen/\(n=0\/∃ b,ob=some b/\a=some ⟨b,off*k,none⟩)

def G85 (w:World) (ob:Option Nat) (t k n c:Nat) (v:Value):Prop:=
 (v=.slice none 0 0/\n=0/\c=0/\ob=none)\/∃ b,v=.slice (some ⟨b,0,none⟩) n c/\ob=some b/\n<=c/\c<=maxLen/\w.shape? b=some (t,c*k)

def Jc9 (w:World) (ob:Option Nat) (t n:Nat) (v:Value) (vs:Array Value):Prop:=
 (v=.slice none 0 0/\n=0/\ob=none)\/∃ b cap,v=.slice (some ⟨b,0,none⟩) n cap/\ob=some b/\n<=cap/\cap<=maxLen/\w.heap[b]? = some (.cells vs t (0,0))/\vs.size=cap

inductive V (w:World) (U:Gx) (L:Loc):AV->Value->Prop
 | data {u:AV} {v:Value} (h:D w (Hs w U L) u v):V w U L u v
 | agg {cs:AD} {vs:Array Value} (hl:vs.size=cs.length) (h:∀ (j:Nat) u v,cs[j]? = some u->vs[j]? = some v->V w U L u v):V w U L (.agg cs) (.agg vs)
 | tup {cs:AD} {vs:Array Value} (hl:vs.size=cs.length) (h:∀ (j:Nat) u v,cs[j]? = some u->vs[j]? = some v->V w U L u v):V w U L (.tup cs) (.tuple vs)
 | ptr {i off b:Nat} {t:TypeId} {cs:AD} (hi:lk L i=some (.box t cs)) (h:U i=some b):V w U L (.ptr i off) (.pointer (some ⟨b,off,none⟩))
 | own {i ver k:Nat} {xs:AD} {v:Value} (hd:D w (Hs w U L) (.list k xs) v)
   (hp:∃ t ver' hw,lk L i=some (.spare t k ver' hw)/\ver<=ver'/\(ver'=ver->hw=xs.length/\Q99 w (Hs w U L) (U i) t k xs v)):V w U L (.own i ver k xs) v
 | ms {i off n cap b:Nat} {t:TypeId} {cs:AD} (hi:lk L i=some (.box t cs)) (h:U i=some b) (hn:n<=cap) (hm:cap<=maxLen):V w U L (.ms i off n cap) (.slice (some ⟨b,off,none⟩) n cap)
 | it {i b n:Nat} {m:AV} {seen:AI} (hi:lk L i=some (.iter m n seen)) (h:U i=some b):V w U L (.it i) (.pointer (some ⟨b,0,none⟩))
 | vec {i ver k n:Nat} {v:Value} (hp:∃ t ver' xs,lk L i=some (.vec t k ver' xs)/\ver<=ver'/\(ver'=ver->n=xs.length/\RX w (U i) t k n v)) (hv:v.oneCell'=true):V w U L (.vec i ver k n) v
 | BO {i ver m f:Nat} {v:Value} (hp:∃ t k ver' xs,lk L i=some (.vec t k ver' xs)/\ver<=ver'/\(ver'=ver->∃ b,U i=some b/\v=.pointer (some ⟨b,m*k+f,none⟩))) (hv:v.oneCell'=true):V w U L (.BO i ver m f) v
 | vsl {i ver k off n:Nat} {v:Value} (hp:∃ t ver' xs,lk L i=some (.vec t k ver' xs)/\ver<=ver'/\(ver'=ver->off+n<=xs.length/\G6d (U i) k off n v/\(off=0->RX w (U i) t k n v))) (hv:v.oneCell'=true):V w U L (.vsl i ver k off n) v
 | vcap {i ver k n c:Nat} {v:Value} (hp:∃ t ver' xs,lk L i=some (.vec t k ver' xs)/\ver<=ver'/\(ver'=ver->G85 w (U i) t k n c v)) (hv:v.oneCell'=true):V w U L (.vcap i ver k n c) v
 | nst {i ver n t ver' hw:Nat} {pre:AD} {last:AV} {v:Value} (vs:Array Value) (hi:lk L i=some (.spare t 1 ver' hw)) (hle:ver<=ver') (hr:ver'=ver->hw=0/\n=pre.length+(if n=0 then 0 else 1)/\Jc9 w (U i) t n v vs)
   (hpre:ver'=ver->∀ (j:Nat) u x,pre[j]? = some u->vs[j]? = some x->D w (Hs w U L) u x) (hlast:∀ x,ver'=ver->0 < n->vs[n - 1]? = some x->V w U L last x) (hv:v.oneCell'=true):V w U L (.nst i ver n pre last) v
 | nptr {i ver m t k ver' hw:Nat} {u:AV} {v:Value} (b:Nat) (vs:Array Value) (hi:lk L i=some (.spare t k ver' hw)) (hle:ver<=ver') (hr:ver'=ver->U i=some b/\v=.pointer (some ⟨b,m,none⟩)/\w.heap[b]? = some (.cells vs t (0,0))/\m < vs.size)
   (hu:∀ x,ver'=ver->vs[m]? = some x->V w U L u x) (hv:v.oneCell'=true):V w U L (.nptr i ver m u) v
 | mp {i b:Nat} {t:TypeId} {es:List (Value×AV)} (hi:lk L i=some (.map t es)) (h:U i=some b):V w U L (.mp i) (.map (some b))
 | fn {f:FuncId} {cs:AD} {vs:Array Value} (hl:vs.size=cs.length) (h:∀ (j:Nat) u v,cs[j]? = some u->vs[j]? = some v->V w U L u v):V w U L (.fn f cs) (.func (.func f) #[] vs)
 | bfn {f:FuncId} {cs:AD} {vs:Array Value} (hl:vs.size=cs.length) (h:∀ (j:Nat) u v,cs[j]? = some u->vs[j]? = some v->V w U L u v):V w U L (.bfn f cs) (.func (.func f) vs #[])
 | opt {c:Bool} {x:AV} {v:Value} (h:c=true->V w U L x v) (h0:c=false->v=undef):V w U L (.opt c x) v

variable {U:Gx} {L:Loc}
theorem V.AL:V w U L .AL v:=.data .AL
theorem V.sc:V w U L (.sc v) v:=.data .sc

structure Step (w:World) (U:Gx) (L:Loc) (w':World) (U':Gx) (L':Loc):Prop where
 os:w'.os=w.os
 tape:w'.tape=w.tape
 output:w'.output=w.output/\w.drawn<=w'.drawn
 size:w.heap.size<=w'.heap.size
 hid:∀ b i,b < w.heap.size->(U'.hid b i ↔ U.hid b i)
 AX:∀ b i,Hs w U L b i->Hs w' U' L' b i/\Qf w' b i=Qf w b i
 far:∀ b,b < w.heap.size->(∀ id,(lk L id).isSome=true->U id≠some b)->w'.heap[b]? = w.heap[b]? /\ (∀ id,(lk L' id).isSome=true->U' id≠some b)
 box:∀ id t cs,lk L id=some (.box t cs)->U' id=U id/\∃ cs',lk L' id=some (.box t cs')
 map:∀ id t es,lk L id=some (.map t es)->U' id=U id/\∃ es',lk L' id=some (.map t es')
 iter:∀ id m n es,lk L id=some (.iter m n es)->U' id=U id/\∃ n' es',lk L' id=some (.iter m n' es')
 vec:∀ id t k ver xs,lk L id=some (.vec t k ver xs)->∃ ver' xs',lk L' id=some (.vec t k ver' xs')/\ver<=ver' /\
  (ver'=ver->xs'.length=xs.length/\U' id=U id/\∀ b,U id=some b->w'.shape? b=w.shape? b)
 spare:∀ id t k ver hw,lk L id=some (.spare t k ver hw)->∃ ver' hw',lk L' id=some (.spare t k ver' hw')/\ver<=ver' /\
  (ver'=ver->hw'=hw/\U' id=U id/\∀ b,U id=some b->w'.heap[b]? = w.heap[b]?)

structure mI (w:World) (U:Gx) (L:Loc) (w':World) (U':Gx) (L':Loc):Prop where
 AX:∀ b i,Hs w U L b i->Hs w' U' L' b i/\Qf w' b i=Qf w b i
 box:∀ id t cs,lk L id=some (.box t cs)->U' id=U id/\∃ cs',lk L' id=some (.box t cs')
 map:∀ id t es,lk L id=some (.map t es)->U' id=U id/\∃ es',lk L' id=some (.map t es')
 iter:∀ id m n es,lk L id=some (.iter m n es)->U' id=U id/\∃ n' es',lk L' id=some (.iter m n' es')
 vec:∀ id t k ver xs,lk L id=some (.vec t k ver xs)->∃ ver' xs',lk L' id=some (.vec t k ver' xs')/\ver<=ver' /\
  (ver'=ver->xs'.length=xs.length/\U' id=U id/\∀ b,U id=some b->w'.shape? b=w.shape? b)
 spare:∀ id t k ver hw,lk L id=some (.spare t k ver hw)->∃ ver' hw',lk L' id=some (.spare t k ver' hw')/\ver<=ver' /\
  (ver'=ver->hw'=hw/\U' id=U id/\∀ b,U id=some b->w'.heap[b]? = w.heap[b]?)
variable {U':Gx} {L':Loc}
theorem Step.weak (h:Step w U L w' U' L'):mI w U L w' U' L':=⟨h.AX,h.box,h.map,h.iter,h.vec,h.spare⟩

theorem Step.refl (w:World) (U:Gx) (L:Loc):Step w U L w U L:=
 ⟨rfl,rfl,⟨rfl,Nat.le_refl _⟩,Nat.le_refl _,fun _ _ _=>Iff.rfl,fun _ _ h=>⟨h,rfl⟩,fun _ _ h=>⟨rfl,h⟩,fun _ _ cs h=>⟨rfl,cs,h⟩,fun _ _ es h=>⟨rfl,es,h⟩,fun _ _ n es h=>⟨rfl,n,es,h⟩,fun _ _ _ ver xs h=>⟨ver,xs,h,Nat.le_refl _,fun _=>⟨rfl,rfl,fun _ _=>rfl⟩⟩,fun _ _ _ ver hw h=>⟨ver,hw,h,Nat.le_refl _,fun _=>⟨rfl,rfl,fun _ _=>rfl⟩⟩⟩

theorem Step.trans {w₁ w₂:World} {U₁ U₂:Gx} {L₁ L₂:Loc} (h:Step w U L w₁ U₁ L₁) (k:Step w₁ U₁ L₁ w₂ U₂ L₂):Step w U L w₂ U₂ L₂ where
 os:=k.os.trans h.os
 tape:=k.tape.trans h.tape
 output:=⟨k.output.1.trans h.output.1,Nat.le_trans h.output.2 k.output.2⟩
 size:=Nat.le_trans h.size k.size
 hid:=fun b i hb=>(k.hid b i (Nat.lt_of_lt_of_le hb h.size)).trans (h.hid b i hb)
 AX:=fun b i hs=>by
  obtain⟨h1,h2⟩:=h.AX b i hs;obtain⟨k1,k2⟩:=k.AX b i h1;exact⟨k1,k2.trans h2⟩
 far:=fun b hb hf=>by
  obtain⟨h1,h2⟩:=h.far b hb hf;obtain⟨k1,k2⟩:=k.far b (Nat.lt_of_lt_of_le hb h.size) h2;exact⟨k1.trans h1,k2⟩
 box:=fun id t cs hi=>by
  obtain⟨h1,cs',h2⟩:=h.box id t cs hi;obtain⟨k1,k2⟩:=k.box id t cs' h2;exact⟨k1.trans h1,k2⟩
 map:=fun id t es hi=>by
  obtain⟨h1,es',h2⟩:=h.map id t es hi;obtain⟨k1,k2⟩:=k.map id t es' h2;exact⟨k1.trans h1,k2⟩
 iter:=fun id m n es hi=>by
  obtain⟨h1,n',es',h2⟩:=h.iter id m n es hi;obtain⟨k1,k2⟩:=k.iter id m n' es' h2;exact⟨k1.trans h1,k2⟩
 vec:=fun id t kk ver xs hi=>by
  obtain⟨v1,xs1,h1,h2,h3⟩:=h.vec id t kk ver xs hi;obtain⟨v2,xs2,k1,k2,k3⟩:=k.vec id t kk v1 xs1 h1;refine⟨v2,xs2,k1,Nat.le_trans h2 k2,fun e=>?_⟩;obtain⟨a1,a2,a3⟩:=h3 (by omega);obtain⟨b1,b2,b3⟩:=k3 (by omega);exact⟨b1.trans a1,b2.trans a2,fun b hb=>(b3 b (a2.trans hb)).trans (a3 b hb)⟩
 spare:=fun id t kk ver hw hi=>by
  obtain⟨v1,hw1,h1,h2,h3⟩:=h.spare id t kk ver hw hi;obtain⟨v2,h0,k1,k2,k3⟩:=k.spare id t kk v1 hw1 h1;refine⟨v2,h0,k1,Nat.le_trans h2 k2,fun e=>?_⟩;obtain⟨a1,a2,a3⟩:=h3 (by omega);obtain⟨b1,b2,b3⟩:=k3 (by omega);exact⟨b1.trans a1,b2.trans a2,fun b hb=>(b3 b (a2.trans hb)).trans (a3 b hb)⟩

theorem Gff {vals:AK} (h:w.ownsRow 0 t k v n vals) (hb:∀ b,v.ownBlock=some b->w'.heap[b]? = w.heap[b]?) :
  w'.ownsRow 0 t k v n vals:=by
 obtain⟨h1,h2⟩:=h;refine⟨h1,?_⟩;rcases h2 with h2 | ⟨g,cap,cur,hv,hg,hh,r⟩
 .exact .inl h2
 .exact .inr ⟨g,cap,cur,hv,hg,by rw [hb g (by rw [hv]; rfl)]; exact hh,r⟩

theorem V.stepW (h:V w U L u v) (hs:mI w U L w' U' L'):V w' U' L' u v:=by
 induction h with
 | data h=>exact .data (h.mono hs.AX)
 | agg hl _ ih=>exact .agg hl ih
 | tup hl _ ih=>exact .tup hl ih
 | ptr hi h=>
  obtain⟨h1,cs',h2⟩:=hs.box _ _ _ hi;exact .ptr h2 (h1.trans h)
 | own hd hp=>
  obtain⟨t,ver',hw,hi,h7,hx⟩:=hp;obtain⟨v2,h8,k1,k2,k3⟩:=hs.spare _ _ _ _ _ hi;refine .own (hd.mono hs.AX) ⟨t,v2,h8,k1,by omega,fun e=>?_⟩;obtain⟨a1,a2,vals,a3,a4⟩:=hx (by omega);obtain⟨b1,b2,b3⟩:=k3 (by omega);refine⟨b1.trans a1,a2.trans b2.symm,vals,Gff a3 (fun b hb=>b3 b (a2 ▸ hb)),fun j u hu=>?_⟩;obtain⟨x,a0,a5⟩:=a4 j u hu;exact⟨x,a0,a5.mono hs.AX⟩
 | ms hi h hn hm=>
  obtain⟨h1,cs',h2⟩:=hs.box _ _ _ hi;exact .ms h2 (h1.trans h) hn hm
 | mp hi h=>
  obtain⟨h1,cs',h2⟩:=hs.map _ _ _ hi;exact .mp h2 (h1.trans h)
 | it hi h=>
  obtain⟨h1,n',cs',h2⟩:=hs.iter _ _ _ _ hi;exact .it h2 (h1.trans h)
 | vec hp hv=>
  obtain⟨t,ver',xs,hi,h7,hx⟩:=hp;obtain⟨v2,xs2,k1,k2,k3⟩:=hs.vec _ _ _ _ _ hi;refine .vec ⟨t,v2,xs2,k1,by omega,fun e=>?_⟩ hv;obtain⟨a1,a2⟩:=hx (by omega);obtain⟨b1,b2,b3⟩:=k3 (by omega);refine⟨a1.trans b1.symm,?_⟩;rw [b2];rcases a2 with h | ⟨b,cap,h1,h2,h3,h4,h5⟩
  .exact .inl h
  .exact .inr ⟨b,cap,h1,h2,h3,h4,(b3 b h2).trans h5⟩
 | BO hp hv=>
  obtain⟨t,k,ver',xs,hi,h7,hx⟩:=hp;obtain⟨v2,xs2,k1,k2,k3⟩:=hs.vec _ _ _ _ _ hi;refine .BO ⟨t,k,v2,xs2,k1,by omega,fun e=>?_⟩ hv;obtain⟨b,hb,a6⟩:=hx (by omega);exact⟨b,(k3 (by omega)).2.1.trans hb,a6⟩
 | vsl hp hv=>
  obtain⟨t,ver',xs,hi,h7,hx⟩:=hp;obtain⟨v2,xs2,k1,k2,k3⟩:=hs.vec _ _ _ _ _ hi;refine .vsl ⟨t,v2,xs2,k1,by omega,fun e=>?_⟩ hv;obtain⟨a1,a2⟩:=hx (by omega);obtain⟨b1,b2,b3⟩:=k3 (by omega);refine⟨by rw [b1]; exact a1,by rw [b2]; exact a2.1,fun h0=>?_⟩;rw [b2];rcases a2.2 h0 with h | ⟨b,cap,h1,h2,h3,h4,h5⟩
  .exact .inl h
  .exact .inr ⟨b,cap,h1,h2,h3,h4,(b3 b h2).trans h5⟩
 | vcap hp hv=>
  obtain⟨t,ver',xs,hi,h7,hx⟩:=hp;obtain⟨v2,xs2,k1,k2,k3⟩:=hs.vec _ _ _ _ _ hi;refine .vcap ⟨t,v2,xs2,k1,by omega,fun e=>?_⟩ hv;obtain⟨b1,b2,b3⟩:=k3 (by omega);rw [b2];rcases hx (by omega) with h | ⟨b,h1,h2,h3,h4,h5⟩
  .exact .inl h
  .exact .inr ⟨b,h1,h2,h3,h4,(b3 b h2).trans h5⟩
 | nst vs hi h7 hr h9 _ hv ih=>
  obtain⟨v2,h8,k1,k2,k3⟩:=hs.spare _ _ _ _ _ hi;refine .nst vs k1 (by omega) (fun e=>?_) (fun e j u x hu hx=>(h9 (by omega) j u x hu hx).mono hs.AX) (fun x e h0 hx=>ih x (by omega) h0 hx) hv;obtain⟨a1,a2,a3⟩:=hr (by omega);obtain⟨b1,b2,b3⟩:=k3 (by omega);refine⟨b1.trans a1,a2,?_⟩;rw [b2];rcases a3 with h | ⟨b,cap,h1,h2,h3,h4,h5,h6⟩
  .exact .inl h
  .exact .inr ⟨b,cap,h1,h2,h3,h4,(b3 b h2).trans h5,h6⟩
 | nptr b vs hi h7 hr _ hv ih=>
  obtain⟨v2,h8,k1,k2,k3⟩:=hs.spare _ _ _ _ _ hi;refine .nptr b vs k1 (by omega) (fun e=>?_) (fun x e hx=>ih x (by omega) hx) hv;obtain⟨a1,a2,a3,a4⟩:=hr (by omega);obtain⟨b1,b2,b3⟩:=k3 (by omega);exact⟨b2.trans a1,a2,(b3 _ a1).trans a3,a4⟩
 | fn hl _ ih=>exact .fn hl ih
 | bfn hl _ ih=>exact .bfn hl ih
 | opt _ h0 ih=>exact .opt ih h0

theorem V.step (h:V w U L u v) (hs:Step w U L w' U' L'):V w' U' L' u v:=h.stepW hs.weak

def MapAt (w:World) (S:Nat->Nat->Prop) (b:Nat) (es:List (Value×AV)):Prop:=
 ∃ (ents:Array MapEntry),w.heap[b]? = some (.map ents ents.size)/\ents.size=es.length /\
  (∀ (i:Nat) e k u,ents[i]? = some e->es[i]? = some (k,u)->e.key=k/\D w S u e.val/\e.born=i)

def Q98 (w:World) (S:Nat->Nat->Prop) (b:Nat) (es:List (Value×AV)):Prop:=
 ∃ vals:AK,vals.length=es.length/\w.heap[b]? = some (.map (J3d 0 es vals).toArray es.length) /\
  ∀ (i:Nat) k u v,es[i]? = some (k,u)->vals[i]? = some v->isT u=false->D w S u v
def H12 (w:World) (S:Nat->Nat->Prop) (b t:Nat) (es:List (Value×AV)):Prop:=
 (Nat.blt t 1000000=true/\MapAt w S b es)\/(Nat.blt t 1000000=false/\Q98 w S b es)
theorem H12.mono {es:List (Value×AV)} (h:H12 w S b t es) (hh:w'.heap[b]? = w.heap[b]?)
  (hs:∀ {u v},D w S u v->D w' S' u v):H12 w' S' b t es:=by
 rcases h with ⟨ht,ents,h1,h2,h3⟩ | ⟨ht,vals,h1,h2,h3⟩
 .exact .inl ⟨ht,ents,hh.trans h1,h2,fun i e k u he hu=>⟨(h3 i e k u he hu).1,hs (h3 i e k u he hu).2.1,(h3 i e k u he hu).2.2⟩⟩
 .exact .inr ⟨ht,vals,h1,hh.trans h2,fun i k u v he hv hu=>hs (h3 i k u v he hv hu)⟩

def kU (w:World) (U:Gx) (L:Loc) (ob:Option Nat):Jb->Prop
 | .box t cs=>∃ b,ob=some b/\∃ vs:Array Value,w.heap[b]? = some (.cells vs t (0,0))/\vs.size=cs.length/\∀ (j:Nat) u v,cs[j]? = some u->vs[j]? = some v->V w U L u v
 | .spare t k _ hw=>(ob=none/\hw=0)\/∃ b,ob=some b/\∃ vs:Array Value,w.heap[b]? = some (.cells vs t (0,0))/\hw*k<=vs.size
 | .vec t k _ xs=>(∀ x∈xs,x.cells.length=k)/\((ob=none/\xs=[])\/∃ b,ob=some b/\∃ vs:Array Value,w.heap[b]? = some (.cells vs t (0,0))/\xs.length*k<=vs.size/\∀ (j:Nat) u v,(flat xs)[j]? = some u->vs[j]? = some v->D w (Hs w U L) u v)
 | .map t es=>∃ b,ob=some b/\H12 w (Hs w U L) b t es
 | .iter m n seen=>∃ b,ob=some b/\∃ bm,V w U L m (.map (some bm))/\w.heap[b]? = some (.mapIter (some bm) n seen.toArray n)
 | .pin t b cs=>ob=some b/\∃ vs:Array Value,w.heap[b]? = some (.cells vs t (0,0))/\vs.size=cs.length/\∀ (j:Nat) u v,cs[j]? = some u->vs[j]? = some v->D w (Hs w U L) u v

structure Sat (w:World) (U:Gx) (L:Loc):Prop where
 hid:∀ b i,U.hid b i->b < w.heap.size
 bnd:∀ id b,(lk L id).isSome=true->U id=some b->b < w.heap.size
 apart:∀ id b j,(lk L id).isSome=true->U id=some b->¬ U.hid b j
 inj:∀ id id' b,(lk L id).isSome=true->(lk L id').isSome=true->U id=some b->U id'=some b->id=id'
 obj:∀ id o,lk L id=some o->kU w U L (U id) o

structure Jq (a:Act) (w:World) (U:Gx) (L:Loc) (l:Fr):Prop where
 tmp:∀ t,V w U L (look l t) (a.tmps.getD t undef)

variable {a:Act} {l:Fr}
theorem Jq.stepW (h:Jq a w U L l) (hs:mI w U L w' U' L'):Jq a w' U' L' l:=⟨fun t=>(h.tmp t).stepW hs⟩
theorem Jq.step (h:Jq a w U L l) (hs:Step w U L w' U' L'):Jq a w' U' L' l:=
 ⟨fun t=>(h.tmp t).step hs⟩

def ev (l:Fr):Operand->AV
 | .tmp t=>look l t
 | .const v=>.sc v
 | .global g=>.sc (.pointer (some ⟨g,0,none⟩))
 | .func f=>.fn f []

theorem Jq.ev (h:Jq a w U L l) (x:Operand):V w U L (ev l x) (a.eval x):=by
 cases x with
 | tmp t=>exact h.tmp t
 | const v=>exact .sc
 | global g=>exact .sc
 | func f=>exact .fn rfl (fun j u v hu=>by simp at hu)

theorem xV {d:Nat} (hd:d < a.tmps.size):(a.put (some d) v).tmps.getD t undef=if d=t then v else a.tmps.getD t undef:=by
 simp only [Act.put,Array.getD_eq_getD_getElem?,Array.getElem?_setIfInBounds];split
 .subst_vars; simp
 .rfl

theorem Jq.put {d:Nat} (h:Jq a w U L l) (hd:d < a.tmps.size) (hv:V w U L u v) :
  Jq (a.put (some d) v) w U L ((d,u)::l):=by
 refine⟨fun t=>?_⟩;rw [xV hd];by_cases e:d=t
 .subst e; simpa [look] using hv
 .have:Nat.beq d t=false:=by
   cases hb:Nat.beq d t with
   | false=>rfl
   | true=>exact absurd (Nat.eq_of_beq_eq_true hb) e
  simpa [look,this,e] using h.tmp t

structure gY (ro:Option Nat) (B:Nat) (w:World) (U:Gx) (L:Loc) (ds:List Deferred):Prop where
 top:ro.isSome=true->ds=[]
 nodup:ds.Nodup
 each:∀ d∈ds,∃ D,d={ target:=.collected D,args:=#[] }/\B<=D/\w.heap[D]? = some (.deferred (some []))/\∀ id,(lk L id).isSome=true->U id≠some D
variable {B:Nat} {ro:Option Nat}
theorem gY.nil:gY ro B w U L []:=⟨fun _=>rfl,List.nodup_nil,fun d hd=>(List.not_mem_nil hd).elim⟩
theorem gY.step {ds:List Deferred} (h:gY ro B w U L ds) (hs:Step w U L w' U' L'):gY ro B w' U' L' ds:=
 ⟨h.top,h.nodup,fun d hd=>by
  obtain⟨D,e,hB,hD,hL⟩:=h.each d hd;have hf:=hs.far D (Array.getElem?_eq_some_iff.1 hD).1 hL;exact⟨D,e,hB,hf.1.trans hD,hf.2⟩⟩
theorem gY.sub {ds:List Deferred} (h:gY ro B w U L ds) (hs:∀ id D,(lk L' id).isSome=true->U' id=some D->∃ id',(lk L id').isSome=true/\U id'=some D):gY ro B w U' L' ds:=
 ⟨h.top,h.nodup,fun d hd=>by
  obtain⟨D,e,hB,hD,hL⟩:=h.each d hd;exact⟨D,e,hB,hD,fun id hid he=>by
   obtain⟨id',h1,h2⟩:=hs id D hid he;exact hL id' h1 h2⟩⟩

structure Qn (N:Cfg) (w0:World) (U0:Gx) (L0:Loc) (a:Act) (w:World) (U:Gx) (l:Fr) (L:Loc):Prop where
 sat:Sat w U L
 step:Step w0 U0 L0 w U L
 frame:Jq a w U L l
 size:N.n<=a.tmps.size
 base:∀ id,(lk L0 id).isSome=true->id∈N.base
 defers:gY N.ro w0.heap.size w U L a.defers

structure Post where
 norm:Fr->Loc->Prop
 ret:Fr->Loc->Prop
 exit:Nat->Fr->Loc->Prop

def Post.seq (Q:Post) (K:Fr->Loc->Prop):Post:=⟨K,Q.ret,Q.exit⟩
def Post.blk (Q:Post) (i:Nat):Post:=⟨Q.norm,Q.ret,fun j l L=>bif Nat.beq j i then Q.norm l L else Q.exit j l L⟩

def Post.out (Q:Post) (N:Cfg) (w0:World) (U0:Gx) (L0:Loc):Exit->Act->World->Prop
 | .normal,a,w=>∃ U l L,Qn N w0 U0 L0 a w U l L/\Q.norm l L
 | .ret,a,w=>∃ U l L,Qn N w0 U0 L0 a w U l L/\Q.ret l L
 | .exit i,a,w=>∃ U l L,Qn N w0 U0 L0 a w U l L/\Q.exit i l L
 | _,_,_=>False

abbrev FR (ro:Option Nat):Fence:={ Fence.wide with round:=ro }
def bL (o:Oper):Bool:=match o.op with
 | .defer _=>false
 | _=>true
variable {o:Oper}
theorem Jb4 (h:bL o=true):∀ c,o.op≠.defer c:=fun c e=>by unfold bL at h; rw [e] at h; cases h
variable {P:Program}
theorem J6b {row:String} {args:Array Value} {R:Value->World->Prop} (h:Rows P row args w R):RowsIn (FR ro) n P row args w R:=
 fun c cs _=>let ⟨v,w',r,s⟩:=h c cs; ⟨v,w',r,stepsIn_wide.2 s⟩
theorem kI {K:Act->World->Prop} {Q:Exit->Act->World->Prop} (hn:bL o=true) (h:o.wp P a w K Q):o.wpIn (FR ro) n P a w K Q:=by
 refine⟨fun _ _=>trivial,?_⟩;rw [Oper.semAt_eq _ _ _ (Jb4 hn)];unfold Oper.wp at h;generalize (execOp a.eval o).run P w=r at h;cases r with
 | ok x w'=>
  cases x <;> simp only [Oper.upon,Oper.uponIn] at h ⊢ <;>
   first
    | exact h
    | exact⟨fun e=>(by cases e),callsIn_wide.2 h⟩
    | exact⟨fun e=>(by cases e),J6b h⟩
    | exact h.elim
 | halt x w'=>cases x <;> simp only [Oper.upon,Oper.uponIn] at h ⊢ <;> exact h
theorem kP {ops:Array Oper} {rest:AM} {Q:Exit->Act->World->Prop} (hg:o.guard=none) (hn:bL o=true)
  (h:∀ K:Act->World->Prop,(∀ a w,wpListIn (FR ro) n P ops Q rest a w->K a w)->o.wp P a w K Q):wpListIn (FR ro) n P ops Q (o::rest) a w:=
 wpListIn_plain hg fun K hK=>kI hn (h K hK)

def JC (P:Program) (N:Cfg) (c:Code) (Q:Post) (l:Fr) (L:Loc):Prop:=
 ∀ (n:Nat) w0 U0 L0 a w U,Qn N w0 U0 L0 a w U l L->c.wpIn (FR N.ro) n P (Q.out N w0 U0 L0) a w

def JL (P:Program) (N:Cfg) (ops:Array Oper) (rest:AM) (Q:Post) (l:Fr) (L:Loc):Prop:=
 ∀ (n:Nat) w0 U0 L0 a w U,Qn N w0 U0 L0 a w U l L->wpListIn (FR N.ro) n P ops (Q.out N w0 U0 L0) rest a w

section code
variable {P:Program} {N:Cfg} {Q:Post} {l:Fr} {L:Loc}

theorem G4 {x y:Code} (h:∀ K:Fr->Loc->Prop,(∀ l L,JC P N y Q l L->K l L)->JC P N x (Q.seq K) l L):JC P N (.seq x y) Q l L:=
 fun n w0 U0 L0 a w U hs=>wpIn_seq (Code.wpIn_mono (fun e a' w' q=>by
  cases e with
  | normal=>obtain⟨U',l',L',h0,hq⟩:=q; exact hq n w0 U0 L0 a' w' U' h0
  | exit i=>exact q
  | ret=>exact q
  | goto l=>exact q
  | panic c=>exact q
  | outgrown=>exact q) (h (fun l L=>JC P N y Q l L) (fun _ _ h=>h) n w0 U0 L0 a w U hs))

theorem Gj (h:Q.norm l L):JC P N .skip Q l L:=fun _ _ _ _ _ _ U hs=>wpIn_skip ⟨U,l,L,hs,h⟩
theorem Gp (h:Q.ret l L):JC P N .ret Q l L:=fun _ _ _ _ _ _ U hs=>wpIn_ret ⟨U,l,L,hs,h⟩
theorem Ha {i:Nat} (h:Q.exit i l L):JC P N (.exit i) Q l L:=fun _ _ _ _ _ _ U hs=>wpIn_exit ⟨U,l,L,hs,h⟩

theorem V.inv_sc {w:World} {U:Gx} {v x:Value} (h:V w U L (.sc v) x):x=v:=by
 cases h with
 | data h=>cases h; rfl

theorem Gh {c:Operand} {x y:Code} {b:Bool} (hc:ev l c=.sc (.bool b)) (ht:b=true->JC P N x Q l L) (hf:b=false->JC P N y Q l L):JC P N (.cond c x y) Q l L:=
 fun n w0 U0 L0 a w U hs=>by
  have hv:=hs.frame.ev c;rw [hc] at hv;exact wpIn_cond_split hv.inv_sc (fun e=>ht e n w0 U0 L0 a w U hs) (fun e=>hf e n w0 U0 L0 a w U hs)

theorem Gi {i:Nat} {c:Code} (h:JC P N c (Q.blk i) l L):JC P N (.block i c) Q l L:=
 fun n w0 U0 L0 a w U hs=>wpIn_block (Code.wpIn_mono (fun e a' w' q=>by
  cases e with
  | normal=>exact q
  | exit j=>
   obtain⟨U',l',L',h0,hq⟩:=q;simp only [Exit.inBlock];by_cases e:j=i
   .subst e;simp only [if_true];exact⟨U',l',L',h0,by simpa [Post.blk] using hq⟩
   .have hb:Nat.beq j i=false:=by
     cases hb:Nat.beq j i with
     | false=>rfl
     | true=>exact absurd (Nat.eq_of_beq_eq_true hb) e
    simp only [if_neg e];exact⟨U',l',L',h0,by simpa [Post.blk,e] using hq⟩
  | ret=>exact q
  | goto l=>exact q
  | panic c=>exact q
  | outgrown=>exact q) (h n w0 U0 L0 a w U hs))

theorem G1 {id:Nat} {ops:AM} (h:JL P N ops.toArray ops Q l L):JC P N (.region id ops.toArray false) Q l L:=
 fun n w0 U0 L0 a w U hs=>wpIn_region_lit (h n w0 U0 L0 a w U hs)

theorem G6 {ops:Array Oper} (h:Q.norm l L):JL P N ops [] Q l L:=
 fun _ _ _ _ _ _ U hs=>⟨U,l,L,hs,h⟩
end code

def Gy (P:Program) (o:Oper) (l:Fr) (L:Loc) (R:AV->Loc->Prop):Prop:=
 ∀ (a:Act) (w:World) (U:Gx) (K:Act->World->Prop) (Q:Exit->Act->World->Prop),Sat w U L->Jq a w U L l ->
  (∀ u L' v w' U',R u L'->Sat w' U' L'->Step w U L w' U' L'->V w' U' L' u v->K (a.put o.dst v) w')->o.wp P a w K Q

theorem Act.put_defers' (a:Act) (x:Option Tmp) (v:Value):(a.put x v).defers=a.defers:=by cases x <;> rfl
theorem Act.put_size (a:Act) (x:Option Tmp) (v:Value):(a.put x v).tmps.size=a.tmps.size:=by cases x <;> simp [Act.put]

section ops
variable {P:Program} {N:Cfg} {Q:Post} {l:Fr} {L:Loc} {ops:Array Oper} {o:Oper} {rest:AM} {R:AV->Loc->Prop}

theorem nM {d:Nat} (hg:o.guard=none) (hd:o.dst=some d) (hn:Nat.blt d N.n=true) (h:Gy P o l L R)
  (hk:∀ u L',R u L'->JL P N ops rest Q ((d,u)::l) L') (h2:bL o=true:=by rfl):JL P N ops (o::rest) Q l L:=by
 intro n w0 U0 L0 a w U hs;refine kP hg h2 fun K hK=>h a w U K _ hs.sat hs.frame ?_;intro u L' v w' U' hr h1 h0 hv;have h3:d < a.tmps.size:=Nat.lt_of_lt_of_le (by simpa [Nat.blt_eq] using hn) hs.size;rw [hd];refine hK _ _ (hk u L' hr n w0 U0 L0 _ w' U' ⟨h1,hs.step.trans h0,(hs.frame.step h0).put h3 hv,by rw [Act.put_size]; exact hs.size,hs.base,by rw [Act.put_defers']; exact hs.defers.step h0⟩)

theorem H9b (hg:o.guard=none) (hd:o.dst=none) (h:Gy P o l L R)
  (hk:∀ u L',R u L'->JL P N ops rest Q l L') (h2:bL o=true:=by rfl):JL P N ops (o::rest) Q l L:=by
 intro n w0 U0 L0 a w U hs;refine kP hg h2 fun K hK=>h a w U K _ hs.sat hs.frame ?_;intro u L' v w' U' hr h1 h0 hv;rw [hd];exact hK _ _ (hk u L' hr n w0 U0 L0 _ w' U' ⟨h1,hs.step.trans h0,hs.frame.step h0,hs.size,hs.base,hs.defers.step h0⟩)

end ops

def Is (u:AV) (L:Loc):AV->Loc->Prop:=fun u' L'=>u'=u/\L'=L

section ops
variable {P:Program} {N:Cfg} {Q:Post} {l:Fr} {L L':Loc} {ops:Array Oper} {o:Oper} {rest:AM} {u:AV}

variable {d:Nat}
theorem G0 (h:Gy P o l L (Is u L')) (hk:JL P N ops rest Q ((d,u)::l) L') (hg:o.guard=none:=by rfl) (hd:o.dst=some d:=by rfl) (hn:Nat.blt d N.n=true:=by rfl) (h0:bL o=true:=by rfl) :
  JL P N ops (o::rest) Q l L:=nM hg hd hn h (fun _ _ e=>by obtain⟨rfl,rfl⟩:=e; exact hk) h0

theorem JLg (v:AV) (h:Gy P o l L (Is v L')) (hk:JL P N ops rest Q ((d,v)::l) L') (hg:o.guard=none:=by rfl) (hd:o.dst=some d:=by rfl) (hn:Nat.blt d N.n=true:=by rfl) (h0:bL o=true:=by rfl) :
    JL P N ops (o::rest) Q l L:=G0 h hk hg hd hn h0
theorem JLh (v:AV) (h:Gy P o l L (Is v L')) (hd:o.dst=some d) (hk:JL P N ops rest Q ((d,v)::l) L') (hg:o.guard=none:=by rfl) (hn:Nat.blt d N.n=true:=by rfl) (h0:bL o=true:=by rfl) :
    JL P N ops (o::rest) Q l L:=G0 h hk hg hd hn h0
theorem G.{uu} {W:Sort uu} {a:W}:a=a:=rfl
theorem J:True:=trivial
theorem Hz (h:Gy P o l L (Is u L')) (hk:JL P N ops rest Q l L') (hg:o.guard=none:=by rfl) (hd:o.dst=none:=by rfl) (h0:bL o=true:=by rfl) :
  JL P N ops (o::rest) Q l L:=H9b hg hd h (fun _ _ e=>by obtain⟨rfl,rfl⟩:=e; exact hk) h0

end ops

def Q2 (P:Program) (f:FuncId) (args:AD) (L0:Loc) (R:AV->Loc->Prop):Prop:=
 ∀ (w:World) (U:Gx) (vs:Array Value),Sat w U L0->vs.size=args.length->(∀ (j:Nat) u v,args[j]? = some u->vs[j]? = some v->V w U L0 u v) ->
  Calls P f vs w fun e w'=>∃ v r U' L',e=.returned v/\Sat w' U' L'/\Step w U L0 w' U' L'/\V w' U' L' r v/\R r L'

end Go.Proofs.YtbgfgnddogfpcaaGreat
