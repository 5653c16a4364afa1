/- Guards,loops,what is forgotten on the way,the beginning and -/
import Derived.Test.YthkihfoleenlmaaGreatMem
set_option linter.unusedVariables false
namespace Go.Proofs.YthkihfoleenlmaaGreat
open Go.RowKit

/-! ### Guarded operations -/
inductive Un (c:Bool):AV→AV→Prop
 | all {c':Bool} {y:AV} (h:c=true→c'=true):Un c (.opt c' y) y
 | part {e:Bool} {y:AV}:Un c (.opt (c&&e) y) (.opt e y)

def RX (c:Bool) (l:Fr):Fr→Prop
 | []=>True
 | (t,y)::r=>Un c (look l t) y/\RX c l r

theorem H1f (us l:Fr) (t:Nat):(∃ y,(t,y)∈us/\look (us++l) t=y)\/look (us++l) t=look l t:=by
 induction us with
 | nil=>exact .inr rfl
 | cons p r ih=>
  obtain⟨i,y⟩:=p
  by_cases e:i=t
  .subst e; exact .inl ⟨y,by simp,by simp [look]⟩
  .have hb:Nat.beq i t=false:=by
    cases hb:Nat.beq i t with
    | false=>rfl
    | true=>exact absurd (P2 hb) e
   simp only [List.cons_append,look,hb,cond_false]
   rcases ih with ⟨y',h1,h2⟩ | h
   .exact .inl ⟨y',List.mem_cons_of_mem _ h1,h2⟩
   .exact .inr h

theorem RX.mem {c:Bool} {l us:Fr} (h:RX c l us) {t:Nat} {y:AV} (hm:(t,y)∈us):Un c (look l t) y:=by
 induction us with
 | nil=>cases hm
 | cons p r ih=>
  obtain⟨i,z⟩:=p
  rcases Pv.1 hm with e | hm
  .cases e; exact h.1
  .exact ih h.2 hm

theorem Jx.un {a:Act} {w:World} {β:H4} {L:Loc} {l us:Fr} (h:Jx a w β L l) (hu:RX true l us):Jx a w β L (us++l):=by
 refine⟨fun t=>?_⟩
 rcases H1f us l t with ⟨y,hm,e⟩ | e
 .rw [e]
  have hv:=h.tmp t
  have h0:=hu.mem hm
  generalize look l t=z at h0 hv
  cases h0 with
  | all hc=>
   rw [hc rfl] at hv
   exact hv.inv_opt
  | part=>simpa using hv
 .rw [e]; exact h.tmp t

section guards
variable {P:Program} {N:Cfg} {Q:Post} {l:Fr} {L:Loc} {ops:Array Oper} {o:Oper} {rest:List Oper} {u:AV}

inductive tH:AV→Bool→Bool→Prop
 | sct {b:Bool}:tH (.sc (.bool b)) true b
 | scf {b:Bool}:tH (.sc (.bool b)) false (!b)
 | optt {c b:Bool}:tH (.opt c (.sc (.bool b))) true (c&&b)
 | optf {c b:Bool}:tH (.opt c (.sc (.bool b))) false (c&&!b)

theorem tH.wanted {a:Act} {w:World} {β:H4} {j:Nat} {dj:Tmp} {want c:Bool} (hf:Jx a w β L l) (h0:dj < a.tmps.size) (hg:o.guard=some (j,want)) (hj:(ops[j]?).bind (·.dst)=some dj) (h:tH (look l dj) want c) :
  Region.wanted o (yielded ops a.tmps)=c:=by
 have hv:=hf.tmp dj
 rw [Array.getD_eq_getD_getElem?,Array.getElem?_eq_getElem h0,Option.getD_some] at hv
 generalize look l dj=z at h hv
 cases h with
 | @sct=>
  have:=hv.inv_sc
  simp only [Region.wanted,hg,yielded,hj,Option.bind_some,Array.getElem?_eq_getElem h0,this]
  cases c <;> rfl
 | @scf b=>
  have:=hv.inv_sc
  simp only [Region.wanted,hg,yielded,hj,Option.bind_some,Array.getElem?_eq_getElem h0,this]
  cases b <;> rfl
 | @optt c' b=>
  cases c' with
  | true=>
   have:=(hv.inv_opt).inv_sc
   simp only [Region.wanted,hg,yielded,hj,Option.bind_some,Array.getElem?_eq_getElem h0,this]
   cases b <;> rfl
  | false=>
   have:=hv.inv_opt0
   simp only [Region.wanted,hg,yielded,hj,Option.bind_some,Array.getElem?_eq_getElem h0,this,undef]
   rfl
 | @optf c' b=>
  cases c' with
  | true=>
   have:=(hv.inv_opt).inv_sc
   simp only [Region.wanted,hg,yielded,hj,Option.bind_some,Array.getElem?_eq_getElem h0,this]
   cases b <;> rfl
  | false=>
   have:=hv.inv_opt0
   simp only [Region.wanted,hg,yielded,hj,Option.bind_some,Array.getElem?_eq_getElem h0,this,undef]
   rfl

theorem G9 {j dj d:Nat} {want c:Bool} {gv:AV} (us:Fr) (hg:o.guard=some (j,want)) (hj:(ops[j]?).bind (·.dst)=some dj) (h3:look l dj=gv) (h4:tH gv want c) (h5:RX c l us) (h:c=true→H2 P o (us++l) L (Is u L)) (hk:JL P N ops rest Q ((d,.opt c u)::l) L)
  (h6:Nat.blt dj N.n=true:=by rfl) (hd:o.dst=some d:=by rfl) (hn:Nat.blt d N.n=true:=by rfl) (h7:dR o=true:=by rfl) :
  JL P N ops (o::rest) Q l L:=by
 subst h3
 intro n w0 β0 L0 a w β hs
 have hw:=h4.wanted (ops:=ops) hs.frame (P0 (by simpa [Nat.blt_eq] using h6) hs.size) hg hj
 have h1:d < a.tmps.size:=P0 (by simpa [Nat.blt_eq] using hn) hs.size
 refine wpListIn_step fun K hK=>?_
 rw [hw]
 cases c with
 | true=>
  rw [if_pos rfl]
  refine gM h7 (h rfl a w β K _ hs.sat (hs.frame.un h5) ?_)
  intro u' L' v w' J' hr h2 h0 hv
  obtain⟨rfl,rfl⟩:=hr
  rw [hd]
  exact hK _ _ (hk n w0 β0 L0 _ w' J' ⟨h2,hs.step.trans h0,(hs.frame.step h0).put h1 (.opt (fun _=>hv) (fun e=>by cases e)),by rw [Act.put_size]; exact hs.size,hs.base,by rw [Act.put_defers']; exact hs.defers.step h0⟩)
 | false=>
  rw [if_neg (by simp),hd]
  exact⟨fun _ _=>trivial,hK _ _ (hk n w0 β0 L0 _ w β ⟨hs.sat,hs.step,hs.frame.put h1 (.opt (fun e=>by cases e) (fun _=>rfl)),by rw [Act.put_size]; exact hs.size,hs.base,by rw [Act.put_defers']; exact hs.defers⟩)⟩
def Je0:AV→AV
 | .opt _ y=>y
 | v=>v
def HQ (l:Fr):List Nat→Fr
 | []=>[]
 | t::r=>(t,Je0 (look l t))::HQ l r
def grd (ops:Array Oper) (l:Fr) (o:Oper):Option (Bool×AV):=o.guard.bind fun g=>((ops[g.1]?).bind (·.dst)).map fun d=>(g.2,look l d)
def J9e (ops:Array Oper) (n:Nat) (o:Oper):Bool:=match o.guard.bind fun g=>(ops[g.1]?).bind (·.dst) with
 | some d=>Nat.blt d n
 | none=>true
theorem Hc2 {ops:Array Oper} {l:Fr} {o:Oper} {n:Nat} {want:Bool} {gv:AV} (h:grd ops l o=some (want,gv)) (hn:J9e ops n o=true):∃ j d,o.guard=some (j,want)/\(ops[j]?).bind (·.dst)=some d/\look l d=gv/\Nat.blt d n=true:=by
 unfold grd at h
 unfold J9e at hn
 obtain⟨g,h1,h2⟩:=Option.bind_eq_some_iff.1 h
 obtain⟨d,h3,h4⟩:=Option.map_eq_some_iff.1 h2
 obtain⟨j,w⟩:=g
 cases h4
 refine⟨j,d,h1,h3,rfl,?_⟩
 rw [h1] at hn
 simp only [Option.bind_some] at hn
 rw [h3] at hn
 exact hn
theorem Ua {c:Bool} {y:AV}:Un c (.opt c y) y:=.all id
theorem JLo (v:AV) (ts:List Nat) {d:Nat} {want c:Bool} {gv:AV} (hg:grd ops l o=some (want,gv)) (h0:tH gv want c) (h5:RX c l (HQ l ts)) (h:c=true→H2 P o (HQ l ts++l) L (Is v L)) (hd:o.dst=some d) (hk:JL P N ops rest Q ((d,.opt c v)::l) L)
  (h6:J9e ops N.n o=true:=by rfl) (hn:Nat.blt d N.n=true:=by rfl) (h7:dR o=true:=by rfl):JL P N ops (o::rest) Q l L:=by
 obtain⟨j,dj,h1,h2,h3,h4⟩:=Hc2 hg h6
 exact G9 (HQ l ts) h1 h2 h3 h0 h5 h hk h4 hd hn h7
end guards

/-! ### Forgetting -/
mutual
def AV.refs (ok:Nat→Bool):AV→Bool
 | .ptr i _=>ok i
 | .own i _ _ _=>ok i
 | .ms i _ _ _=>ok i
 | .mp i=>ok i
 | .it i=>ok i
 | .vec i _ _ _=>ok i
 | .vptr i _ _ _=>ok i
 | .vsl i _ _ _ _=>ok i
 | .vcap i _ _ _ _=>ok i
 | .nst i _ _ _ last=>ok i&&last.refs ok
 | .nptr i _ _ u=>ok i&&u.refs ok
 | .agg cs=>Ys ok cs
 | .tup cs=>Ys ok cs
 | .fn _ cs=>Ys ok cs
 | .bfn _ cs=>Ys ok cs
 | .opt _ x=>x.refs ok
 | _=>true
def Ys (ok:Nat→Bool):List AV→Bool
 | []=>true
 | x::r=>x.refs ok&&Ys ok r
end

theorem bO {ok:Nat→Bool}:∀ {cs:List AV},Ys ok cs=true→∀ u∈cs,u.refs ok=true
 | x::r,h,u,hu=>by
  simp only [Ys,Pp] at h
  rcases Pv.1 hu with rfl | hu
  .exact h.1
  .exact bO h.2 u hu

inductive Conv (ok:Nat→Bool):AV→AV→Prop
 | same {u:AV} (h:u.refs ok=true):Conv ok u u
 | junk {u:AV}:Conv ok u .junk
 | list {u:AV} {k:Nat} {xs:List AV} (h:Jz u=some (k,xs)):Conv ok u (.list k xs)
 | nil {k:Nat}:Conv ok (.sc (.slice none 0 0)) (.list k [])

theorem Conv.eq {ok:Nat→Bool} {u u':AV} (h:u=u') (hr:u'.refs ok=true):Conv ok u u':=by subst h; exact .same hr

def Jn.like:Jn→Jn→Prop
 | .box t _,.box t' _=>t=t'
 | .spare t k ver hw,.spare t' k' ver' h0=>t=t'/\k=k'/\ver=ver'/\hw=h0
 | .map t _,.map t' _=>t=t'
 | .vec t k ver xs,.vec t' k' ver' xs'=>t=t'/\k=k'/\ver=ver'/\xs.length=xs'.length
 | .iter m _ _,.iter m' _ _=>m=m'
 | .pin t b cs,.pin t' b' cs'=>t=t'/\b=b'/\cs.length=cs'.length
 | _,_=>False

theorem Jn.like.keeps {o o':Jn} (h:o.like o') (i:Nat):o.keeps i ↔ o'.keeps i:=by
 cases o <;> cases o' <;> simp_all [Jn.like,Jn.keeps]

structure sH (L L':Loc):Prop where
 like:∀ id o',lk L' id=some o'→∃ o,lk L id=some o/\o.like o'

theorem sH.some {L L':Loc} (h:sH L L') {id:Nat} (hs:(lk L' id).isSome=true):(lk L id).isSome=true:=by
 obtain⟨o',h0⟩:=Ny hs
 obtain⟨o,ho,_⟩:=h.like id o' h0
 rw [ho]; rfl

theorem sH.stab {w:World} {β:H4} {L L':Loc} (h:sH L L') {b i:Nat} (hs:Ji w β L b i):Ji w β L' b i:=
 ⟨hs.lt,hs.seen,fun id o' hid hb=>by
  obtain⟨o,ho,hl⟩:=h.like id o' hid
  exact(hl.keeps i).1 (hs.kept id o ho hb)⟩

theorem V.drop {w:World} {β:H4} {L L':Loc} (hd:sH L L') {u:AV} {v:Value} (h:V w β L u v):u.refs (fun i=>(lk L' i).isSome)=true→V w β L' u v:=by
 have mono:∀ {u v},D w (Ji w β L) u v→D w (Ji w β L') u v:=fun h=>h.mono fun b i hs=>⟨hd.stab hs,rfl⟩
 have mem:∀ {cs:List AV},Ys (fun i=>(lk L' i).isSome) cs=true→∀ (j:Nat) u,cs[j]? = some u→u.refs (fun i=>(lk L' i).isSome)=true:=
  fun h j u hu=>bO h u (Pd hu)
 induction h with
 | data h=>exact fun _=>.data (mono h)
 | agg hl _ ih=>exact fun hr=>.agg hl fun j u v hu hv=>ih j u v hu hv (mem (by simpa [AV.refs] using hr) j u hu)
 | tup hl _ ih=>exact fun hr=>.tup hl fun j u v hu hv=>ih j u v hu hv (mem (by simpa [AV.refs] using hr) j u hu)
 | fn hl _ ih=>exact fun hr=>.fn hl fun j u v hu hv=>ih j u v hu hv (mem (by simpa [AV.refs] using hr) j u hu)
 | bfn hl _ ih=>exact fun hr=>.bfn hl fun j u v hu hv=>ih j u v hu hv (mem (by simpa [AV.refs] using hr) j u hu)
 | opt _ h0 ih=>exact fun hr=>.opt (fun e=>ih e (by simpa [AV.refs] using hr)) h0
 | ptr hi h=>
  intro hr
  obtain⟨o',h3⟩:=Ny (show (lk L' _).isSome=true by simpa [AV.refs] using hr)
  obtain⟨o,ho,hl⟩:=hd.like _ o' h3
  rw [hi] at ho; cases ho
  cases o' <;> simp [Jn.like] at hl
  subst hl
  exact .ptr h3 h
 | ms hi h hn hm=>
  intro hr
  obtain⟨o',h3⟩:=Ny (show (lk L' _).isSome=true by simpa [AV.refs] using hr)
  obtain⟨o,ho,hl⟩:=hd.like _ o' h3
  rw [hi] at ho; cases ho
  cases o' <;> simp [Jn.like] at hl
  subst hl
  exact .ms h3 h hn hm
 | mp hi h=>
  intro hr
  obtain⟨o',h3⟩:=Ny (show (lk L' _).isSome=true by simpa [AV.refs] using hr)
  obtain⟨o,ho,hl⟩:=hd.like _ o' h3
  rw [hi] at ho; cases ho
  cases o' <;> simp [Jn.like] at hl
  subst hl
  exact .mp h3 h
 | it hi h=>
  intro hr
  obtain⟨o',h3⟩:=Ny (show (lk L' _).isSome=true by simpa [AV.refs] using hr)
  obtain⟨o,ho,hl⟩:=hd.like _ o' h3
  rw [hi] at ho; cases ho
  cases o' <;> simp [Jn.like] at hl
  subst hl
  exact .it h3 h
 | vptr hp hv=>
  intro hr
  obtain⟨t,k,ver',xs,hi,h4,hx⟩:=hp
  obtain⟨o',h3⟩:=Ny (show (lk L' _).isSome=true by simpa [AV.refs] using hr)
  obtain⟨o,ho,hl⟩:=hd.like _ o' h3
  rw [hi] at ho; cases ho
  cases o' <;> simp [Jn.like] at hl
  obtain⟨rfl,rfl,rfl,hl⟩:=hl
  exact .vptr ⟨t,k,ver',_,h3,h4,hx⟩ hv
 | vsl hp hv=>
  intro hr
  obtain⟨t,ver',xs,hi,h4,hx⟩:=hp
  obtain⟨o',h3⟩:=Ny (show (lk L' _).isSome=true by simpa [AV.refs] using hr)
  obtain⟨o,ho,hl⟩:=hd.like _ o' h3
  rw [hi] at ho; cases ho
  cases o' <;> simp [Jn.like] at hl
  obtain⟨rfl,rfl,rfl,hl⟩:=hl
  exact .vsl ⟨t,ver',_,h3,h4,fun e=>⟨by rw [← hl]; exact(hx e).1,(hx e).2⟩⟩ hv
 | vcap hp hv=>
  intro hr
  obtain⟨t,ver',xs,hi,h4,hx⟩:=hp
  obtain⟨o',h3⟩:=Ny (show (lk L' _).isSome=true by simpa [AV.refs] using hr)
  obtain⟨o,ho,hl⟩:=hd.like _ o' h3
  rw [hi] at ho; cases ho
  cases o' <;> simp [Jn.like] at hl
  obtain⟨rfl,rfl,rfl,hl⟩:=hl
  exact .vcap ⟨t,ver',_,h3,h4,hx⟩ hv
 | nst vs hi h4 h5 h6 _ hv ih=>
  intro hr
  simp only [AV.refs,Pp] at hr
  obtain⟨o',h3⟩:=Ny hr.1
  obtain⟨o,ho,hl⟩:=hd.like _ o' h3
  rw [hi] at ho; cases ho
  cases o' <;> simp [Jn.like] at hl
  obtain⟨rfl,rfl,rfl,rfl⟩:=hl
  exact .nst vs h3 h4 h5 (fun e j u x hu hx=>mono (h6 e j u x hu hx)) (fun x e h0 hx=>ih x e h0 hx hr.2) hv
 | nptr b vs hi h4 h5 _ hv ih=>
  intro hr
  simp only [AV.refs,Pp] at hr
  obtain⟨o',h3⟩:=Ny hr.1
  obtain⟨o,ho,hl⟩:=hd.like _ o' h3
  rw [hi] at ho; cases ho
  cases o' <;> simp [Jn.like] at hl
  obtain⟨rfl,rfl,rfl,rfl⟩:=hl
  exact .nptr b vs h3 h4 h5 (fun x e hx=>ih x e hx hr.2) hv
 | vec hp hv=>
  intro hr
  obtain⟨t,ver',xs,hi,h4,hx⟩:=hp
  obtain⟨o',h3⟩:=Ny (show (lk L' _).isSome=true by simpa [AV.refs] using hr)
  obtain⟨o,ho,hl⟩:=hd.like _ o' h3
  rw [hi] at ho; cases ho
  cases o' <;> simp [Jn.like] at hl
  obtain⟨rfl,rfl,rfl,hl⟩:=hl
  exact .vec ⟨t,ver',_,h3,h4,fun e=>⟨(hx e).1.trans hl,(hx e).2⟩⟩ hv
 | own h7 hp=>
  intro hr
  obtain⟨t,ver',hw,hi,h4,hx⟩:=hp
  obtain⟨o',h3⟩:=Ny (show (lk L' _).isSome=true by simpa [AV.refs] using hr)
  obtain⟨o,ho,hl⟩:=hd.like _ o' h3
  rw [hi] at ho; cases ho
  cases o' <;> simp [Jn.like] at hl
  obtain⟨rfl,rfl,rfl,rfl⟩:=hl
  refine .own (mono h7) ⟨t,ver',hw,h3,h4,fun e=>?_⟩
  obtain⟨a1,a2,vals,a3,a4⟩:=hx e
  exact⟨a1,a2,vals,a3,fun j u hu=>by
   obtain⟨x,h1,h2⟩:=a4 j u hu
   exact⟨x,h1,mono h2⟩⟩

theorem V.conv {w:World} {β:H4} {L L':Loc} (hd:sH L L') {u u':AV} {v:Value} (h:V w β L u v) (hc:Conv (fun i=>(lk L' i).isSome) u u'):V w β L' u' v:=by
 cases hc with
 | same hr=>exact h.drop hd hr
 | junk=>exact .junk
 | list ha=>exact .data ((h.Jz ha).mono fun b i hs=>⟨hd.stab hs,rfl⟩)
 | nil=>rw [h.inv_sc]; exact .data (.nil (Nat.zero_le _))

inductive jD (ok:Nat→Bool):Jn→Jn→Prop
 | same {t k ver hw:Nat}:jD ok (.spare t k ver hw) (.spare t k ver hw)
 | map {t:Nat} {es:List (Value×AV)}:jD ok (.map t es) (.map t es)
 | iter {n:Nat} {m:AV} {es:List Nat} (h:m.refs ok=true):jD ok (.iter m n es) (.iter m n es)
 | vec {t k ver:Nat} {xs:List AV}:jD ok (.vec t k ver xs) (.vec t k ver xs)
 | pin {t b:Nat} {cs:List AV}:jD ok (.pin t b cs) (.pin t b cs)
 | box {t:Nat} {cs cs':List AV} (hl:cs.length=cs'.length) (h:∀ (j:Nat) u u',cs[j]? = some u→cs'[j]? = some u'→Conv ok u u'):jD ok (.box t cs) (.box t cs')

theorem jD.boxEq {ok:Nat→Bool} {t:Nat} {cs cs':List AV} (h:cs=cs') (hr:Ys ok cs'=true):jD ok (.box t cs) (.box t cs'):=by
 subst h
 exact .box rfl fun j u u' hu h0=>by
  rw [hu] at h0; cases h0
  exact .same (bO hr u (Pd hu))
def lD (ok:Nat→Bool) (l:Fr):Fr→Prop
 | []=>True
 | (t,u)::r=>Conv ok (look l t) u/\lD ok l r
def bQ (ok:Nat→Bool) (L:Loc):Loc→Prop
 | []=>True
 | (id,o')::r=>(∃ o,lk L id=some o/\jD ok o o')/\bQ ok L r
def allIn (L:Loc):List Nat→Bool
 | []=>true
 | i::r=>(lk L i).isSome&&allIn L r

structure Fits (B:List Nat) (l:Fr) (L:Loc) (l':Fr) (L':Loc):Prop where
 fr:lD (fun i=>(lk L' i).isSome) l l'
 loc:bQ (fun i=>(lk L' i).isSome) L L'
 base:allIn L' B=true

theorem bQ.get {ok:Nat→Bool} {L:Loc}:∀ {L':Loc},bQ ok L L'→∀ {id:Nat} {o':Jn},lk L' id=some o'→∃ o,lk L id=some o/\jD ok o o'
 | (i,x)::r,h,id,o',ho=>by
  rw [Gm] at ho
  by_cases e:i=id
  .subst e; simp at ho; subst ho; exact h.1
  .rw [if_neg e] at ho; exact h.2.get ho

theorem lD.get {ok:Nat→Bool} {l:Fr}:∀ {l':Fr},lD ok l l'→∀ t,Conv ok (look l t) (look l' t)
 | [],_,t=>by simpa [look] using Conv.junk
 | (i,x)::r,h,t=>by
  by_cases e:i=t
  .subst e; simpa [look] using h.1
  .have hb:Nat.beq i t=false:=by
    cases hb:Nat.beq i t with
    | false=>rfl
    | true=>exact absurd (P2 hb) e
   simpa [look,hb] using h.2.get t

theorem G94 {L:Loc}:∀ {B:List Nat},allIn L B=true→∀ i∈B,(lk L i).isSome=true
 | i::r,h,j,hj=>by
  simp only [allIn,Pp] at h
  rcases Pv.1 hj with rfl | hj
  .exact h.1
  .exact G94 h.2 j hj

theorem jD.like {ok:Nat→Bool} {o o':Jn} (h:jD ok o o'):o.like o':=by cases h <;> simp [Jn.like]

theorem Fits.drop {B:List Nat} {l l':Fr} {L L':Loc} (h:Fits B l L l' L'):sH L L':=
 ⟨fun id o' h0=>by obtain⟨o,h1,h2⟩:=h.loc.get h0; exact⟨o,h1,h2.like⟩⟩

theorem Ry.fits {N:Cfg} {w0 w:World} {β0 β:H4} {L0 L L':Loc} {a:Act} {l l':Fr} (hs:Ry N w0 β0 L0 a w β l L) (h:Fits N.base l L l' L'):Ry N w0 β0 L0 a w β l' L':=by
 have hd:=h.drop
 have hb:∀ id,(lk L0 id).isSome=true→(lk L' id).isSome=true:=fun id hid=>G94 h.base id (hs.base id hid)
 have keep:∀ id o0 o,lk L0 id=some o0→lk L id=some o→∃ o',lk L' id=some o'/\o.like o':=by
  intro id o0 o h0 ho
  obtain⟨o',h5⟩:=Ny (hb id (by rw [h0]; rfl))
  obtain⟨o2,h6,hl⟩:=hd.like id o' h5
  rw [ho] at h6; cases h6
  exact⟨o',h5,hl⟩
 refine⟨⟨hs.sat.hid,fun id b hid hb=>hs.sat.bnd id b (hd.some hid) hb,fun id b j hid hb=>hs.sat.apart id b j (hd.some hid) hb,fun id id' b h1 h2=>hs.sat.inj id id' b (hd.some h1) (hd.some h2),fun id o' h5=>?_⟩,?_,⟨fun t=>(hs.frame.tmp t).conv hd (h.fr.get t)⟩,hs.size,hs.base,hs.defers.sub fun id D h1 h2=>⟨id,hd.some h1,h2⟩⟩
 .obtain⟨o,ho,hc⟩:=h.loc.get h5
  have h0:=hs.sat.obj id o ho
  cases hc with
  | same=>exact h0
  | map=>
   obtain⟨b,h1,h2⟩:=h0
   exact⟨b,h1,h2.mono rfl fun h=>h.mono fun b i hs=>⟨hd.stab hs,rfl⟩⟩
  | vec=>
   obtain⟨h9,h0⟩:=h0
   refine⟨h9,?_⟩
   rcases h0 with h0 | ⟨b,h1,vs,h2,h3,h4⟩
   .exact .inl h0
   .exact .inr ⟨b,h1,vs,h2,h3,fun j u v hu hv=>(h4 j u v hu hv).mono fun b i hs=>⟨hd.stab hs,rfl⟩⟩
  | pin=>
   obtain⟨h1,vs,h2,h3,h4⟩:=h0
   exact⟨h1,vs,h2,h3,fun j u v hu hv=>(h4 j u v hu hv).mono fun b i hs=>⟨hd.stab hs,rfl⟩⟩
  | iter hm=>
   obtain⟨b,h1,bm,h2,h4⟩:=h0
   exact⟨b,h1,bm,h2.drop hd hm,h4⟩
  | box hl hc=>
   obtain⟨b,h1,vs,h2,h3,h4⟩:=h0
   refine⟨b,h1,vs,h2,h3.trans hl,fun j u' v h7 hv=>?_⟩
   rename_i cs cs'
   have hj:j < cs.length:=by
    rcases P4 j cs'.length with h | h
    .omega
    .simp [List.getElem?_eq_none h] at h7
   exact(h4 j cs[j] v (by simp [hj]) hv).conv hd (hc j _ _ (by simp [hj]) h7)
 .have st:=hs.step
  refine⟨st.os,st.tape,st.output,st.size,st.hid,fun b i h0=>⟨hd.stab (st.stab b i h0).1,(st.stab b i h0).2⟩,fun b h8 hf=>⟨(st.far b h8 hf).1,fun id hid=>(st.far b h8 hf).2 id (hd.some hid)⟩,fun id t cs h0=>?_,fun id t cs h0=>?_,fun id t n cs h0=>?_,fun id t k ver xs h0=>?_,fun id t k ver hw h0=>?_⟩
  .obtain⟨e,cs',h1⟩:=st.box id t cs h0
   obtain⟨o',h2,h3⟩:=keep id _ _ h0 h1
   cases o' <;> simp [Jn.like] at h3
   subst h3
   exact⟨e,_,h2⟩
  .obtain⟨e,cs',h1⟩:=st.map id t cs h0
   obtain⟨o',h2,h3⟩:=keep id _ _ h0 h1
   cases o' <;> simp [Jn.like] at h3
   subst h3
   exact⟨e,_,h2⟩
  .obtain⟨e,n',cs',h1⟩:=st.iter id t n cs h0
   obtain⟨o',h2,h3⟩:=keep id _ _ h0 h1
   cases o' <;> simp [Jn.like] at h3
   subst h3
   exact⟨e,_,_,h2⟩
  .obtain⟨v',xs',h1,a0,r⟩:=st.vec id t k ver xs h0
   obtain⟨o',h2,h3⟩:=keep id _ _ h0 h1
   cases o' <;> simp [Jn.like] at h3
   obtain⟨rfl,rfl,rfl,h4⟩:=h3
   exact⟨v',_,h2,a0,fun e=>⟨h4.symm.trans (r e).1,(r e).2⟩⟩
  .obtain⟨v',a1,h1,r⟩:=st.spare id t k ver hw h0
   obtain⟨o',h2,h3⟩:=keep id _ _ h0 h1
   cases o' <;> simp [Jn.like] at h3
   obtain⟨rfl,rfl,rfl,rfl⟩:=h3
   exact⟨v',a1,h2,r⟩

section flow
variable {P:Program} {N:Cfg} {Q:Post} {l:Fr} {L:Loc}

theorem rM {c:Code} {l':Fr} {L':Loc} (h:Fits N.base l L l' L') (hk:JC P N c Q l' L'):JC P N c Q l L:=
 fun n w0 β0 L0 a w β hs=>hk n w0 β0 L0 a w β (hs.fits h)
theorem dP {body:Code} {X:Type} (I:X→Prop) (F:X→Fr) (M:X→Loc) (J:X→Nat) (x0:X) (h0:I x0) (hf:Fits N.base l L (F x0) (M x0))
  (hr:∀ x,I x→∀ K:Fr→Loc→Prop,(∀ l L x',I x'→J x' < J x→Fits N.base l L (F x') (M x')→K l L)→JC P N body (Q.seq K) (F x) (M x)):JC P N (.loop body) Q l L:=by
 intro n w0 β0 L0 a w β hs b k cs h7 hb h5
 have key:∀ m x a w β,J x=m→I x→Ry N w0 β0 L0 a w β (F x) (M x) →
   ∃ e a' w',Q.out N w0 β0 L0 e a' w'/\ArrivesIn (Machine.fenced P (FR N.ro)) P (lone (b.atR a (.code body::.inLoop body::k)) cs w) b k cs e a' w':=by
  intro m
  induction m using Nat.strongRecOn with
  | _ m ih=>
   intro x a w β hn hI hs
   obtain⟨e,a₁,w₁,hq,h4⟩:=hr x hI (fun l L=>∃ x',I x'/\J x' < J x/\Fits N.base l L (F x') (M x')) (fun l L x' h1 h2 h3=>⟨x',h1,h2,h3⟩) n w0 β0 L0 a w β hs b (.inLoop body::k) cs h7 hb h5
   cases e with
   | normal=>
    obtain⟨J',l',L',h8,x',h9,a0,h6⟩:=hq
    obtain⟨e₂,a₂,w₂,hq₂,harr₂⟩:=ih (J x') (hn ▸ a0) x' a₁ w₁ J' rfl h9 (h8.fits h6)
    exact⟨e₂,a₂,w₂,hq₂,.of_steps (StepsIn.trans h4 (.one (fenced_calm hb h5 rfl) stepR_inLoop)) harr₂⟩
   | exit id=>exact⟨.exit id,a₁,w₁,hq,.pass (x:=.inLoop body) rfl (fun _ _=>.inl (by simp)) h4⟩
   | goto l=>exact hq.elim
   | ret=>exact⟨.ret,a₁,w₁,hq,.pass (x:=.inLoop body) rfl (fun _ _=>.inl (by simp)) h4⟩
   | panic ch=>exact hq.elim
   | outgrown=>exact hq.elim
 obtain⟨e,a',w',hq,h4⟩:=key _ x0 a w β rfl h0 (hs.fits hf)
 exact⟨e,a',w',hq,.of_steps (.one (fenced_calm hb h5 rfl) stepR_loop) h4⟩
end flow

/-! ### Shorter forms, for printed texts -/
section short
variable {P:Program} {N:Cfg} {Q:Post} {l:Fr} {L:Loc} {ops:Array Oper} {o:Oper} {rest:List Oper}
theorem Js {x y:Code} (h:∀ {K:Fr→Loc→Prop},(∀ {l L},JC P N y Q l L→K l L)→JC P N x (Q.seq K) l L):JC P N (.seq x y) Q l L:=G4 fun K hK=>h (hK _ _)
theorem Jr {id:Nat} {ops:List Oper} {y:Code} (h:∀ {K:Fr→Loc→Prop},(∀ {l L},JC P N y Q l L→K l L)→JL P N ops.toArray ops (Q.seq K) l L):JC P N (.seq (.region id ops.toArray false) y) Q l L:=G4 fun K hK=>G1 (h (hK _ _))
def Je7 (o:Oper):Bool:=match o.op with
 | .move _ | .assign _=>true
 | _=>false
def Je8 (l:Fr) (o:Oper):AV:=match o.op with
 | .move x | .assign x=>ev l x
 | _=>.junk
theorem A_mv (v:AV) (hm:Je7 o=true) (hx:Je8 l o=v):H2 P o l L (Is v L):=by
 intro a w β K R h0 hf hK
 unfold Je7 at hm
 unfold Je8 at hx
 subst hx
 cases ho:o.op <;> rw [ho] at hm <;> first | cases hm | skip
 all_goals
  unfold Oper.wp
  simp only [execOp,ho,Sem.run_pure]
  refine hK _ _ _ w β ⟨rfl,rfl⟩ h0 (Step.refl w β L) ?_
  rw [ho]
  exact hf.ev _
theorem JLm (v:AV) {d:Nat} (hd:o.dst=some d) (hk:JL P N ops rest Q ((d,v)::l) L) (hm:Je7 o=true:=by rfl) (hx:Je8 l o=v:=by rfl) (hg:o.guard=none:=by rfl) (hn:Nat.blt d N.n=true:=by rfl) (h0:dR o=true:=by rfl):JL P N ops (o::rest) Q l L:=G0 (A_mv v hm hx) hk hg hd hn h0
theorem JCc {c:Operand} {x y:Code} {b:Bool} {β:Type} {A B R:β} (hc:ev l c=.sc (.bool b)) (h:(bif b then A else B)=R) (ht:A=R→b=true→JC P N x Q l L) (hf:B=R→b=false→JC P N y Q l L):JC P N (.cond c x y) Q l L:=
 Gg hc (fun e=>ht (by rw [← h,e]; rfl) e) (fun e=>hf (by rw [← h,e]; rfl) e)
end short

/-! ### The beginning and the end of a call -/
def jP:Nat→List AV→Fr
 | _,[]=>[]
 | n,a::r=>(n,a)::jP (n+1) r

theorem rD:∀ (n:Nat) (as:List AV) (t:Nat),look (jP n as) t=if n≤t then (as[t - n]?).getD .junk else .junk
 | n,[],t=>by simp [jP,look]
 | n,a::r,t=>by
  by_cases e:n=t
  .subst e; simp [jP,look]
  .have hb:Nat.beq n t=false:=by
    cases hb:Nat.beq n t with
    | false=>rfl
    | true=>exact absurd (P2 hb) e
   simp only [jP,look,hb,cond_false,rD (n+1) r t]
   by_cases h:n≤t
   .rw [if_pos h,if_pos (by omega)]
    rw [show t - n=(t - (n+1))+1 by omega,List.getElem?_cons_succ]
   .rw [if_neg h,if_neg (by omega)]

def Post.fin (F:Fr→Loc→Prop):Post:=⟨F,F,fun _ _ _=>False⟩

theorem wJ {w:World} {D:Nat} {o o':Obj} (hD:w.heap[D]? = some o) (ho:(∀ vs t f,o≠.cells vs t f)/\∀ e n,o≠.map e n) (h0:(∀ vs t f,o'≠.cells vs t f)/\∀ e n,o'≠.map e n) (b i:Nat):Zb (w.putObj D o') b i=Zb w b i:=by
 by_cases e:b=D
 .subst e
  unfold Zb G85 RI World.cell?
  simp only [World.putObj_heap_same (Nz hD).1,hD]
  cases o <;> cases o' <;> simp_all
 .exact Q1 (w:=w) (World.putObj_heap_other e)
theorem qW {w:World} {β:H4} {L:Loc} {D B:Nat} {o o':Obj} (hD:w.heap[D]? = some o) (ho:(∀ vs t f,o≠.cells vs t f)/\∀ e n,o≠.map e n) (h0:(∀ vs t f,o'≠.cells vs t f)/\∀ e n,o'≠.map e n) (hL:∀ id,(lk L id).isSome=true→β id≠some D)
  (w0:World) (β0:H4) (L0:Loc) (hB:w0.heap.size≤B) (h5:B≤D) (hs:Step w0 β0 L0 w β L):Step w0 β0 L0 (w.putObj D o') β L:=by
 have hx:∀ id b,(lk L id).isSome=true→β id=some b→(w.putObj D o').heap[b]? = w.heap[b]? := fun id b h1 h2=>World.putObj_heap_other fun e=>hL id h1 (by rw [h2,e])
 refine⟨hs.os,hs.tape,hs.output,by rw [World.putObj_size]; exact hs.size,hs.hid,fun b i h=>?_,fun b hb hf=>?_,hs.box,hs.map,hs.iter,fun id t k ver xs h=>?_,fun id t k ver hw h=>?_⟩
 .obtain⟨h1,h2⟩:=hs.stab b i h
  exact⟨⟨by rw [World.putObj_size]; exact h1.lt,h1.seen,h1.kept⟩,(wJ hD ho h0 _ _).trans h2⟩
 .obtain⟨h1,h2⟩:=hs.far b hb hf
  exact⟨(World.putObj_heap_other (by omega)).trans h1,h2⟩
 .obtain⟨v',xs',h1,h2,h3⟩:=hs.vec id t k ver xs h
  refine⟨v',xs',h1,h2,fun e=>?_⟩
  obtain⟨a1,a2,a3⟩:=h3 e
  refine⟨a1,a2,fun b hb=>?_⟩
  rw [← a3 b hb]
  have:=hx id b (by rw [h1]; rfl) (a2.trans hb)
  unfold World.shape?
  rw [this]
 .obtain⟨v',h4,h1,h2,h3⟩:=hs.spare id t k ver hw h
  refine⟨v',h4,h1,h2,fun e=>?_⟩
  obtain⟨a1,a2,a3⟩:=h3 e
  exact⟨a1,a2,fun b hb=>(hx id b (by rw [h1]; rfl) (a2.trans hb)).trans (a3 b hb)⟩
theorem iB {w:World} {β:H4} {L:Loc} {D:Nat} {o o':Obj} (hD:w.heap[D]? = some o) (ho:(∀ vs t f,o≠.cells vs t f)/\∀ e n,o≠.map e n) (h0:(∀ vs t f,o'≠.cells vs t f)/\∀ e n,o'≠.map e n) (hL:∀ id,(lk L id).isSome=true→β id≠some D):nJ w β L (w.putObj D o') β L:=by
 have hx:∀ id b,(lk L id).isSome=true→β id=some b→(w.putObj D o').heap[b]? = w.heap[b]? := fun id b h1 h2=>World.putObj_heap_other fun e=>hL id h1 (by rw [h2,e])
 exact⟨fun b i h=>⟨⟨by rw [World.putObj_size]; exact h.lt,h.seen,h.kept⟩,wJ hD ho h0 _ _⟩,fun _ _ cs h=>⟨rfl,cs,h⟩,fun _ _ es h=>⟨rfl,es,h⟩,fun _ _ n es h=>⟨rfl,n,es,h⟩,
  fun id _ _ ver xs h=>⟨ver,xs,h,Pf,fun _=>⟨rfl,rfl,fun b hb=>cN (hx id b (by rw [h]; rfl) hb)⟩⟩,
  fun id _ _ ver hw h=>⟨ver,hw,h,Pf,fun _=>⟨rfl,rfl,fun b hb=>hx id b (by rw [h]; rfl) hb⟩⟩⟩
theorem oV {w:World} {β:H4} {L:Loc} {D:Nat} {o o':Obj} (hD:w.heap[D]? = some o) (ho:(∀ vs t f,o≠.cells vs t f)/\∀ e n,o≠.map e n) (h0:(∀ vs t f,o'≠.cells vs t f)/\∀ e n,o'≠.map e n) (hL:∀ id,(lk L id).isSome=true→β id≠some D)
  (h:Sat w β L):Sat (w.putObj D o') β L:=
 ⟨fun b i hh=>by rw [World.putObj_size]; exact h.hid b i hh,fun id b h1 h2=>by rw [World.putObj_size]; exact h.bnd id b h1 h2,h.apart,h.inj,
  fun id o hi=>(h.obj id o hi).stepW (iB hD ho h0 hL) (fun b hb=>World.putObj_heap_other fun e=>hL id (by rw [hi]; rfl) (by rw [hb,e]))⟩

theorem Ry.leaves {F:Fence} {n:Nat} {P:Program} {fn:Func} {R:Ending→World→Prop} {N:Cfg} {w0:World} {β0 β:H4} {L0 L:Loc} {l:Fr} {tmps:Array Value} :
  ∀ {ds:List Deferred} {w:World},Ry N w0 β0 L0 { tmps:=tmps,defers:=ds } w β l L→(∀ w'',Ry N w0 β0 L0 { tmps:=tmps,defers:=[] } w'' β l L→LeavesIn F n P fn tmps R [] .returning w'')→LeavesInM F n P fn tmps R ds .returning w
 | [],w,hs,h=>h w hs
 | d::ds,w,hs,h=>by
  obtain⟨D,rfl,hB,hD,hL⟩:=hs.defers.each d (List.mem_cons_self ..)
  refine⟨by simp,.inl ⟨D,w.putObj D (.deferred none),rfl,run_takeDeferred hD,Ry.leaves ?_ h⟩⟩
  have hn:=List.nodup_cons.1 hs.defers.nodup
  refine⟨oV hD (by simp) (by simp) hL hs.sat,qW hD (by simp) (by simp) hL w0 β0 L0 (Pf) hB hs.step,⟨fun t=>(hs.frame.tmp t).stepW (iB hD (by simp) (by simp) hL)⟩,hs.size,hs.base,fun h=>(by have:=hs.defers.top h; cases this),hn.2,fun d' h0=>?_⟩
  obtain⟨D',rfl,h1,h2,h3⟩:=hs.defers.each d' (List.mem_cons_of_mem _ h0)
  exact⟨D',rfl,h1,(World.putObj_heap_other (fun e=>hn.1 (by rw [← e]; exact h0))).trans h2,h3⟩
theorem uR {P:Program} {f:FuncId} {fn:Func} {c:Code} {args:List AV} {L0:Loc} {R:AV→Loc→Prop} {base:List Nat} {F:Fr→Loc→Prop} (hf:P.funcs[f]? = some fn) (hb:fn.body=some c)
  (h0:∀ id,(lk L0 id).isSome=true→id∈base)
  (hF:∀ w0 β0 a w β l L,Ry ⟨fn.ntmps,base,none⟩ w0 β0 L0 a w β l L→F l L→∃ v r L',(results fn a.tmps).run P w=.ok v w/\Sat w β L'/\Step w0 β0 L0 w β L'/\V w β L' r v/\R r L')
  (h:JC P ⟨fn.ntmps,base,none⟩ c (.fin F) (jP 0 args) L0):Rb P f args L0 R:=by
 intro w β vs h6 hl hv
 refine callsIn_wide.1 (callsIn_of_wp_marks (F:=Fence.wide) (n:=0) hf hb trivial (Code.wpIn_mono (fun e a' w' q=>?_) (h 0 w β L0 _ w β ⟨h6,Step.refl _ _ _,⟨fun t=>?_⟩,?_,h0,.nil⟩)))
 .have fin:(∃ J' l' L',Ry ⟨fn.ntmps,base,none⟩ w β L0 a' w' J' l' L'/\F l' L')→LeavesInM Fence.wide 0 P fn a'.tmps (fun e w'=>∃ v r J' L',e=.returned v/\Sat w' J' L'/\Step w β L0 w' J' L'/\V w' J' L' r v/\R r L') a'.defers .returning w':=by
   rintro⟨J',l',L',hs,hq⟩
   refine Ry.leaves (tmps:=a'.tmps) (ds:=a'.defers) hs fun w'' h7=>?_
   obtain⟨v,r,L'',h1,h2,h3,h4,h5⟩:=hF w β _ w'' J' l' L' h7 hq
   exact⟨v,h1,v,r,J',L'',rfl,h2,h3,h4,h5⟩
  cases e with
  | normal=>exact fin q
  | ret=>exact fin q
  | exit i=>obtain⟨_,_,_,_,hq⟩:=q; exact hq.elim
  | goto l=>exact q.elim
  | panic c=>exact q.elim
  | outgrown=>exact q.elim
 .rw [rD]
  simp only [Nat.zero_le,if_true,Nat.sub_zero]
  cases hu:args[t]? with
  | none=>exact .junk
  | some u=>
   have ht:t < vs.size:=by
    rcases P4 t args.length with h | h
    .omega
    .simp [List.getElem?_eq_none h] at hu
   have e:(vs++Array.replicate (fn.ntmps - vs.size) undef).getD t undef=vs[t]:=by
    rw [Array.getD_eq_getD_getElem?,Array.getElem?_append_left ht]; simp [ht]
   rw [e]
   exact hv t u _ hu (by simp [ht])
 .simp; omega

end Go.Proofs.YthkihfoleenlmaaGreat
