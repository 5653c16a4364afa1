/- Guards,loops,what is forgotten on the way,the beginning and -/
import Derived.Test.YtbgfgnddogfpcaaGreatMem
set_option linter.unusedVariables false
namespace Go.Proofs.YtbgfgnddogfpcaaGreat
open Go.RowKit

/-! ### Guarded operations -/
inductive Un (c:Bool):AV->AV->Prop
 | all {c':Bool} {y:AV} (h:c=true->c'=true):Un c (.opt c' y) y
 | part {e:Bool} {y:AV}:Un c (.opt (c&&e) y) (.opt e y)

def zV (c:Bool) (l:Fr):Fr->Prop
 | []=>True
 | (t,y)::r=>Un c (look l t) y/\zV c l r

theorem H7c (us l:Fr) (t:Nat):(∃ y,(t,y)∈us/\look (us++l) t=y)\/look (us++l) t=look l t:=by
 induction us with
 | nil=>exact .inr rfl
 | cons p r ih=>
  obtain⟨i,y⟩:=p;by_cases e:i=t
  .subst e; exact .inl ⟨y,by simp,by simp [look]⟩
  .have hb:Nat.beq i t=false:=by
    cases hb:Nat.beq i t with
    | false=>rfl
    | true=>exact absurd (P2 hb) e
   simp only [List.cons_append,look,hb,cond_false];rcases ih with ⟨y',h1,h2⟩ | h
   .exact .inl ⟨y',List.mem_cons_of_mem _ h1,h2⟩
   .exact .inr h

variable {l:Fr} {t:Nat}
theorem zV.mem {c:Bool} {us:Fr} (h:zV c l us) {y:AV} (hm:(t,y)∈us):Un c (look l t) y:=by
 induction us with
 | nil=>cases hm
 | cons p r ih=>
  obtain⟨i,z⟩:=p;rcases Pv.1 hm with e | hm
  .cases e; exact h.1
  .exact ih h.2 hm

variable {U:Gx} {L:Loc} {w:World}
theorem Jq.un {a:Act} {us:Fr} (h:Jq a w U L l) (hu:zV true l us):Jq a w U L (us++l):=by
 refine⟨fun t=>?_⟩;rcases H7c us l t with ⟨y,hm,e⟩ | e
 .rw [e];have hv:=h.tmp t;have h0:=hu.mem hm;generalize look l t=z at h0 hv;cases h0 with
  | all hc=>
   rw [hc rfl] at hv;exact hv.inv_opt
  | part=>simpa using hv
 .rw [e]; exact h.tmp t

section guards
variable {P:Program} {N:Cfg} {Q:Post} {l:Fr} {L:Loc} {ops:Array Oper} {o:Oper} {rest:AM} {u:AV}

inductive rA:AV->Bool->Bool->Prop
 | sct {b:Bool}:rA (.sc (.bool b)) true b
 | scf {b:Bool}:rA (.sc (.bool b)) false (!b)
 | optt {c b:Bool}:rA (.opt c (.sc (.bool b))) true (c&&b)
 | optf {c b:Bool}:rA (.opt c (.sc (.bool b))) false (c&&!b)

variable {c want:Bool}
theorem rA.wanted {a:Act} {w:World} {U:Gx} {j:Nat} {dj:Tmp} (hf:Jq a w U L l) (h0:dj < a.tmps.size) (hg:o.guard=some (j,want)) (hj:(ops[j]?).bind (·.dst)=some dj) (h:rA (look l dj) want c) :
  Region.wanted o (yielded ops a.tmps)=c:=by
 have hv:=hf.tmp dj;rw [Array.getD_eq_getD_getElem?,Array.getElem?_eq_getElem h0,Option.getD_some] at hv;generalize look l dj=z at h hv;cases h with
 | @sct=>
  have:=hv.inv_sc;simp only [Region.wanted,hg,yielded,hj,Option.bind_some,Array.getElem?_eq_getElem h0,this];cases c <;> rfl
 | @scf b=>
  have:=hv.inv_sc;simp only [Region.wanted,hg,yielded,hj,Option.bind_some,Array.getElem?_eq_getElem h0,this];cases b <;> rfl
 | @optt c' b=>
  cases c' with
  | true=>
   have:=(hv.inv_opt).inv_sc;simp only [Region.wanted,hg,yielded,hj,Option.bind_some,Array.getElem?_eq_getElem h0,this];cases b <;> rfl
  | false=>
   have:=hv.inv_opt0;simp only [Region.wanted,hg,yielded,hj,Option.bind_some,Array.getElem?_eq_getElem h0,this,undef];rfl
 | @optf c' b=>
  cases c' with
  | true=>
   have:=(hv.inv_opt).inv_sc;simp only [Region.wanted,hg,yielded,hj,Option.bind_some,Array.getElem?_eq_getElem h0,this];cases b <;> rfl
  | false=>
   have:=hv.inv_opt0;simp only [Region.wanted,hg,yielded,hj,Option.bind_some,Array.getElem?_eq_getElem h0,this,undef];rfl

variable {gv:AV}
theorem G8 {j dj d:Nat} (us:Fr) (hg:o.guard=some (j,want)) (hj:(ops[j]?).bind (·.dst)=some dj) (h3:look l dj=gv) (h4:rA gv want c) (h5:zV c l us) (h:c=true->Gy P o (us++l) L (Is u L)) (hk:JL P N ops rest Q ((d,.opt c u)::l) L)
  (h6:Nat.blt dj N.n=true:=by rfl) (hd:o.dst=some d:=by rfl) (hn:Nat.blt d N.n=true:=by rfl) (h7:bL o=true:=by rfl) :
  JL P N ops (o::rest) Q l L:=by
 subst h3;intro n w0 U0 L0 a w U hs;have hw:=h4.wanted (ops:=ops) hs.frame (P0 (by simpa [Nat.blt_eq] using h6) hs.size) hg hj;have h1:d < a.tmps.size:=P0 (by simpa [Nat.blt_eq] using hn) hs.size;refine wpListIn_step fun K hK=>?_;rw [hw];cases c with
 | true=>
  rw [if_pos rfl];refine kI h7 (h rfl a w U K _ hs.sat (hs.frame.un h5) ?_);intro u' L' v w' U' hr h2 h0 hv;obtain⟨rfl,rfl⟩:=hr;rw [hd];exact hK _ _ (hk n w0 U0 L0 _ w' U' ⟨h2,hs.step.trans h0,(hs.frame.step h0).put h1 (.opt (fun _=>hv) (fun e=>by cases e)),by rw [Act.put_size]; exact hs.size,hs.base,by rw [Act.put_defers']; exact hs.defers.step h0⟩)
 | false=>
  rw [if_neg (by simp),hd];exact⟨fun _ _=>trivial,hK _ _ (hk n w0 U0 L0 _ w U ⟨hs.sat,hs.step,hs.frame.put h1 (.opt (fun e=>by cases e) (fun _=>rfl)),by rw [Act.put_size]; exact hs.size,hs.base,by rw [Act.put_defers']; exact hs.defers⟩)⟩
def Q87:AV->AV
 | .opt _ y=>y
 | v=>v
def RC (l:Fr):AI->Fr
 | []=>[]
 | t::r=>(t,Q87 (look l t))::RC l r
def grd (ops:Array Oper) (l:Fr) (o:Oper):Option (Bool×AV):=o.guard.bind fun g=>((ops[g.1]?).bind (·.dst)).map fun d=>(g.2,look l d)
def Q2a (ops:Array Oper) (n:Nat) (o:Oper):Bool:=match o.guard.bind fun g=>(ops[g.1]?).bind (·.dst) with
 | some d=>Nat.blt d n
 | none=>true
theorem J40 {ops:Array Oper} {l:Fr} {o:Oper} {n:Nat} (h:grd ops l o=some (want,gv)) (hn:Q2a ops n o=true):∃ j d,o.guard=some (j,want)/\(ops[j]?).bind (·.dst)=some d/\look l d=gv/\Nat.blt d n=true:=by
 unfold grd at h;unfold Q2a at hn;obtain⟨g,h1,h2⟩:=Option.bind_eq_some_iff.1 h;obtain⟨d,h3,h4⟩:=Option.map_eq_some_iff.1 h2;obtain⟨j,w⟩:=g;cases h4;refine⟨j,d,h1,h3,rfl,?_⟩;rw [h1] at hn;simp only [Option.bind_some] at hn;rw [h3] at hn;exact hn
theorem Ua {y:AV}:Un c (.opt c y) y:=.all id
theorem JLo (v:AV) (ts:AI) {d:Nat} (hg:grd ops l o=some (want,gv)) (h0:rA gv want c) (h5:zV c l (RC l ts)) (h:c=true->Gy P o (RC l ts++l) L (Is v L)) (hd:o.dst=some d) (hk:JL P N ops rest Q ((d,.opt c v)::l) L)
  (h6:Q2a ops N.n o=true:=by rfl) (hn:Nat.blt d N.n=true:=by rfl) (h7:bL o=true:=by rfl):JL P N ops (o::rest) Q l L:=by
 obtain⟨j,dj,h1,h2,h3,h4⟩:=J40 hg h6;exact G8 (RC l ts) h1 h2 h3 h0 h5 h hk h4 hd hn h7
end guards

/-! ### Forgetting -/
mutual
def AV.refs (ok:Nat->Bool):AV->Bool
 | .ptr i _=>ok i
 | .own i _ _ _=>ok i
 | .ms i _ _ _=>ok i
 | .mp i=>ok i
 | .it i=>ok i
 | .vec i _ _ _=>ok i
 | .BO i _ _ _=>ok i
 | .vsl i _ _ _ _=>ok i
 | .vcap i _ _ _ _=>ok i
 | .nst i _ _ _ last=>ok i&&last.refs ok
 | .nptr i _ _ u=>ok i&&u.refs ok
 | .agg cs=>Qr ok cs
 | .tup cs=>Qr ok cs
 | .fn _ cs=>Qr ok cs
 | .bfn _ cs=>Qr ok cs
 | .opt _ x=>x.refs ok
 | _=>true
def Qr (ok:Nat->Bool):AD->Bool
 | []=>true
 | x::r=>x.refs ok&&Qr ok r
end

theorem Yz {ok:Nat->Bool}:∀ {cs:AD},Qr ok cs=true->∀ u∈cs,u.refs ok=true
 | x::r,h,u,hu=>by
  simp only [Qr,Pp] at h;rcases Pv.1 hu with rfl | hu
  .exact h.1
  .exact Yz h.2 u hu

inductive Conv (ok:Nat->Bool):AV->AV->Prop
 | same {u:AV} (h:u.refs ok=true:=by rfl):Conv ok u u
 | AL {u:AV}:Conv ok u .AL
 | list {u:AV} {k:Nat} {xs:AD} (h:Jv u=some (k,xs)):Conv ok u (.list k xs)
 | nil {k:Nat}:Conv ok (.sc (.slice none 0 0)) (.list k [])

variable {u:AV} {ok:Nat->Bool}
theorem Conv.eq {u':AV} (h:u=u') (hr:u'.refs ok=true):Conv ok u u':=by subst h; exact .same hr

def Jb.like:Jb->Jb->Prop
 | .box t _,.box t' _=>t=t'
 | .spare t k ver hw,.spare t' k' ver' h0=>t=t'/\k=k'/\ver=ver'/\hw=h0
 | .map t _,.map t' _=>t=t'
 | .vec t k ver xs,.vec t' k' ver' xs'=>t=t'/\k=k'/\ver=ver'/\xs.length=xs'.length
 | .iter m _ _,.iter m' _ _=>m=m'
 | .pin t b cs,.pin t' b' cs'=>t=t'/\b=b'/\cs.length=cs'.length
 | _,_=>False

theorem Jb.like.keeps {o o':Jb} (h:o.like o') (i:Nat):o.keeps i ↔ o'.keeps i:=by
 cases o <;> cases o' <;> simp_all [Jb.like,Jb.keeps]

structure tV (L L':Loc):Prop where
 like:∀ id o',lk L' id=some o'->∃ o,lk L id=some o/\o.like o'

variable {L':Loc}
theorem tV.some (h:tV L L') {id:Nat} (hs:(lk L' id).isSome=true):(lk L id).isSome=true:=by
 obtain⟨o',h0⟩:=Ny hs;obtain⟨o,ho,_⟩:=h.like id o' h0;rw [ho]; rfl

variable {i:Nat}
theorem tV.AX (h:tV L L') {b:Nat} (hs:Hs w U L b i):Hs w U L' b i:=
 ⟨hs.lt,hs.seen,fun id o' hid hb=>by
  obtain⟨o,ho,hl⟩:=h.like id o' hid;exact(hl.keeps i).1 (hs.kept id o ho hb)⟩

theorem V.drop (hd:tV L L') {v:Value} (h:V w U L u v):u.refs (fun i=>(lk L' i).isSome)=true->V w U L' u v:=by
 have mono:∀ {u v},D w (Hs w U L) u v->D w (Hs w U L') u v:=fun h=>h.mono fun b i hs=>⟨hd.AX hs,rfl⟩;have mem:∀ {cs:AD},Qr (fun i=>(lk L' i).isSome) cs=true->∀ (j:Nat) u,cs[j]? = some u->u.refs (fun i=>(lk L' i).isSome)=true:=
  fun h j u hu=>Yz h u (Pd hu)
 induction h with
 | data h=>exact fun _=>.data (mono h)
 | agg hl _ ih=>exact fun hr=>.agg hl fun j u v hu hv=>ih j u v hu hv (mem (by simpa [AV.refs] using hr) j u hu)
 | tup hl _ ih=>exact fun hr=>.tup hl fun j u v hu hv=>ih j u v hu hv (mem (by simpa [AV.refs] using hr) j u hu)
 | fn hl _ ih=>exact fun hr=>.fn hl fun j u v hu hv=>ih j u v hu hv (mem (by simpa [AV.refs] using hr) j u hu)
 | bfn hl _ ih=>exact fun hr=>.bfn hl fun j u v hu hv=>ih j u v hu hv (mem (by simpa [AV.refs] using hr) j u hu)
 | opt _ h0 ih=>exact fun hr=>.opt (fun e=>ih e (by simpa [AV.refs] using hr)) h0
 | ptr hi h=>
  intro hr;obtain⟨o',h3⟩:=Ny (show (lk L' _).isSome=true by simpa [AV.refs] using hr);obtain⟨o,ho,hl⟩:=hd.like _ o' h3;rw [hi] at ho; cases ho;cases o' <;> simp [Jb.like] at hl;subst hl;exact .ptr h3 h
 | ms hi h hn hm=>
  intro hr;obtain⟨o',h3⟩:=Ny (show (lk L' _).isSome=true by simpa [AV.refs] using hr);obtain⟨o,ho,hl⟩:=hd.like _ o' h3;rw [hi] at ho; cases ho;cases o' <;> simp [Jb.like] at hl;subst hl;exact .ms h3 h hn hm
 | mp hi h=>
  intro hr;obtain⟨o',h3⟩:=Ny (show (lk L' _).isSome=true by simpa [AV.refs] using hr);obtain⟨o,ho,hl⟩:=hd.like _ o' h3;rw [hi] at ho; cases ho;cases o' <;> simp [Jb.like] at hl;subst hl;exact .mp h3 h
 | it hi h=>
  intro hr;obtain⟨o',h3⟩:=Ny (show (lk L' _).isSome=true by simpa [AV.refs] using hr);obtain⟨o,ho,hl⟩:=hd.like _ o' h3;rw [hi] at ho; cases ho;cases o' <;> simp [Jb.like] at hl;subst hl;exact .it h3 h
 | BO hp hv=>
  intro hr;obtain⟨t,k,ver',xs,hi,h4,hx⟩:=hp;obtain⟨o',h3⟩:=Ny (show (lk L' _).isSome=true by simpa [AV.refs] using hr);obtain⟨o,ho,hl⟩:=hd.like _ o' h3;rw [hi] at ho; cases ho;cases o' <;> simp [Jb.like] at hl;obtain⟨rfl,rfl,rfl,hl⟩:=hl;exact .BO ⟨t,k,ver',_,h3,h4,hx⟩ hv
 | vsl hp hv=>
  intro hr;obtain⟨t,ver',xs,hi,h4,hx⟩:=hp;obtain⟨o',h3⟩:=Ny (show (lk L' _).isSome=true by simpa [AV.refs] using hr);obtain⟨o,ho,hl⟩:=hd.like _ o' h3;rw [hi] at ho; cases ho;cases o' <;> simp [Jb.like] at hl;obtain⟨rfl,rfl,rfl,hl⟩:=hl;exact .vsl ⟨t,ver',_,h3,h4,fun e=>⟨by rw [<- hl]; exact(hx e).1,(hx e).2⟩⟩ hv
 | vcap hp hv=>
  intro hr;obtain⟨t,ver',xs,hi,h4,hx⟩:=hp;obtain⟨o',h3⟩:=Ny (show (lk L' _).isSome=true by simpa [AV.refs] using hr);obtain⟨o,ho,hl⟩:=hd.like _ o' h3;rw [hi] at ho; cases ho;cases o' <;> simp [Jb.like] at hl;obtain⟨rfl,rfl,rfl,hl⟩:=hl;exact .vcap ⟨t,ver',_,h3,h4,hx⟩ hv
 | nst vs hi h4 h5 h6 _ hv ih=>
  intro hr;simp only [AV.refs,Pp] at hr;obtain⟨o',h3⟩:=Ny hr.1;obtain⟨o,ho,hl⟩:=hd.like _ o' h3;rw [hi] at ho; cases ho;cases o' <;> simp [Jb.like] at hl;obtain⟨rfl,rfl,rfl,rfl⟩:=hl;exact .nst vs h3 h4 h5 (fun e j u x hu hx=>mono (h6 e j u x hu hx)) (fun x e h0 hx=>ih x e h0 hx hr.2) hv
 | nptr b vs hi h4 h5 _ hv ih=>
  intro hr;simp only [AV.refs,Pp] at hr;obtain⟨o',h3⟩:=Ny hr.1;obtain⟨o,ho,hl⟩:=hd.like _ o' h3;rw [hi] at ho; cases ho;cases o' <;> simp [Jb.like] at hl;obtain⟨rfl,rfl,rfl,rfl⟩:=hl;exact .nptr b vs h3 h4 h5 (fun x e hx=>ih x e hx hr.2) hv
 | vec hp hv=>
  intro hr;obtain⟨t,ver',xs,hi,h4,hx⟩:=hp;obtain⟨o',h3⟩:=Ny (show (lk L' _).isSome=true by simpa [AV.refs] using hr);obtain⟨o,ho,hl⟩:=hd.like _ o' h3;rw [hi] at ho; cases ho;cases o' <;> simp [Jb.like] at hl;obtain⟨rfl,rfl,rfl,hl⟩:=hl;exact .vec ⟨t,ver',_,h3,h4,fun e=>⟨(hx e).1.trans hl,(hx e).2⟩⟩ hv
 | own h7 hp=>
  intro hr;obtain⟨t,ver',hw,hi,h4,hx⟩:=hp;obtain⟨o',h3⟩:=Ny (show (lk L' _).isSome=true by simpa [AV.refs] using hr);obtain⟨o,ho,hl⟩:=hd.like _ o' h3;rw [hi] at ho; cases ho;cases o' <;> simp [Jb.like] at hl;obtain⟨rfl,rfl,rfl,rfl⟩:=hl;refine .own (mono h7) ⟨t,ver',hw,h3,h4,fun e=>?_⟩;obtain⟨a1,a2,vals,a3,a4⟩:=hx e;exact⟨a1,a2,vals,a3,fun j u hu=>by
   obtain⟨x,h1,h2⟩:=a4 j u hu;exact⟨x,h1,mono h2⟩⟩

theorem V.conv (hd:tV L L') {u':AV} {v:Value} (h:V w U L u v) (hc:Conv (fun i=>(lk L' i).isSome) u u'):V w U L' u' v:=by
 cases hc with
 | same hr=>exact h.drop hd hr
 | AL=>exact .AL
 | list ha=>exact .data ((h.Jv ha).mono fun b i hs=>⟨hd.AX hs,rfl⟩)
 | nil=>rw [h.inv_sc]; exact .data (.nil (Nat.zero_le _))

inductive kC (ok:Nat->Bool):Jb->Jb->Prop
 | same {t k ver hw:Nat}:kC ok (.spare t k ver hw) (.spare t k ver hw)
 | map {t:Nat} {es:List (Value×AV)}:kC ok (.map t es) (.map t es)
 | iter {n:Nat} {m:AV} {es:AI} (h:m.refs ok=true):kC ok (.iter m n es) (.iter m n es)
 | vec {t k ver:Nat} {xs:AD}:kC ok (.vec t k ver xs) (.vec t k ver xs)
 | pin {t b:Nat} {cs:AD}:kC ok (.pin t b cs) (.pin t b cs)
 | box {t:Nat} {cs cs':AD} (hl:cs.length=cs'.length) (h:∀ (j:Nat) u u',cs[j]? = some u->cs'[j]? = some u'->Conv ok u u'):kC ok (.box t cs) (.box t cs')

theorem kC.boxEq {cs cs':AD} (h:cs=cs') (hr:Qr ok cs'=true):kC ok (.box t cs) (.box t cs'):=by
 subst h;exact .box rfl fun j u u' hu h0=>by
  rw [hu] at h0; cases h0;exact .same (Yz hr u (Pd hu))
theorem zM {cs:AD} (h:lk L i=some (.box t cs):=by rfl) (hr:Qr ok cs=true:=by rfl):∃ o,lk L i=some o/\kC ok o (.box t cs):=⟨_,h,.boxEq rfl hr⟩
theorem zW {k ver:Nat} {xs:AD} (h:lk L i=some (.vec t k ver xs):=by rfl):∃ o,lk L i=some o/\kC ok o (.vec t k ver xs):=⟨_,h,.vec⟩
theorem zZ {k ver hw:Nat} (h:lk L i=some (.spare t k ver hw):=by rfl):∃ o,lk L i=some o/\kC ok o (.spare t k ver hw):=⟨_,h,.same⟩
def lE (ok:Nat->Bool) (l:Fr):Fr->Prop
 | []=>True
 | (t,u)::r=>Conv ok (look l t) u/\lE ok l r
def aX (ok:Nat->Bool) (L:Loc):Loc->Prop
 | []=>True
 | (id,o')::r=>(∃ o,lk L id=some o/\kC ok o o')/\aX ok L r
def allIn (L:Loc):AI->Bool
 | []=>true
 | i::r=>(lk L i).isSome&&allIn L r

structure Fits (B:AI) (l:Fr) (L:Loc) (l':Fr) (L':Loc):Prop where
 fr:lE (fun i=>(lk L' i).isSome) l l'
 loc:aX (fun i=>(lk L' i).isSome) L L'
 base:allIn L' B=true

theorem aX.get:∀ {L':Loc},aX ok L L'->∀ {id:Nat} {o':Jb},lk L' id=some o'->∃ o,lk L id=some o/\kC ok o o'
 | (i,x)::r,h,id,o',ho=>by
  rw [Ge] at ho;by_cases e:i=id
  .subst e; simp at ho; subst ho; exact h.1
  .rw [if_neg e] at ho; exact h.2.get ho

theorem lE.get:∀ {l':Fr},lE ok l l'->∀ t,Conv ok (look l t) (look l' t)
 | [],_,t=>by simpa [look] using Conv.AL
 | (i,x)::r,h,t=>by
  by_cases e:i=t
  .subst e; simpa [look] using h.1
  .have hb:Nat.beq i t=false:=by
    cases hb:Nat.beq i t with
    | false=>rfl
    | true=>exact absurd (P2 hb) e
   simpa [look,hb] using h.2.get t

theorem Ge6 {L:Loc}:∀ {B:AI},allIn L B=true->∀ i∈B,(lk L i).isSome=true
 | i::r,h,j,hj=>by
  simp only [allIn,Pp] at h;rcases Pv.1 hj with rfl | hj
  .exact h.1
  .exact Ge6 h.2 j hj

theorem kC.like {o o':Jb} (h:kC ok o o'):o.like o':=by cases h <;> simp [Jb.like]

theorem Fits.drop {B:AI} {l':Fr} (h:Fits B l L l' L'):tV L L':=
 ⟨fun id o' h0=>by obtain⟨o,h1,h2⟩:=h.loc.get h0; exact⟨o,h1,h2.like⟩⟩

theorem Qn.fits {N:Cfg} {w0:World} {U0:Gx} {L0:Loc} {a:Act} {l':Fr} (hs:Qn N w0 U0 L0 a w U l L) (h:Fits N.base l L l' L'):Qn N w0 U0 L0 a w U l' L':=by
 have hd:=h.drop;have hb:∀ id,(lk L0 id).isSome=true->(lk L' id).isSome=true:=fun id hid=>Ge6 h.base id (hs.base id hid);have keep:∀ id o0 o,lk L0 id=some o0->lk L id=some o->∃ o',lk L' id=some o'/\o.like o':=by
  intro id o0 o h0 ho;obtain⟨o',h5⟩:=Ny (hb id (by rw [h0]; rfl));obtain⟨o2,h6,hl⟩:=hd.like id o' h5;rw [ho] at h6; cases h6;exact⟨o',h5,hl⟩
 refine⟨⟨hs.sat.hid,fun id b hid hb=>hs.sat.bnd id b (hd.some hid) hb,fun id b j hid hb=>hs.sat.apart id b j (hd.some hid) hb,fun id id' b h1 h2=>hs.sat.inj id id' b (hd.some h1) (hd.some h2),fun id o' h5=>?_⟩,?_,⟨fun t=>(hs.frame.tmp t).conv hd (h.fr.get t)⟩,hs.size,hs.base,hs.defers.sub fun id D h1 h2=>⟨id,hd.some h1,h2⟩⟩
 .obtain⟨o,ho,hc⟩:=h.loc.get h5;have h0:=hs.sat.obj id o ho;cases hc with
  | same=>exact h0
  | map=>
   obtain⟨b,h1,h2⟩:=h0;exact⟨b,h1,h2.mono rfl fun h=>h.mono fun b i hs=>⟨hd.AX hs,rfl⟩⟩
  | vec=>
   obtain⟨h9,h0⟩:=h0;refine⟨h9,?_⟩;rcases h0 with h0 | ⟨b,h1,vs,h2,h3,h4⟩
   .exact .inl h0
   .exact .inr ⟨b,h1,vs,h2,h3,fun j u v hu hv=>(h4 j u v hu hv).mono fun b i hs=>⟨hd.AX hs,rfl⟩⟩
  | pin=>
   obtain⟨h1,vs,h2,h3,h4⟩:=h0;exact⟨h1,vs,h2,h3,fun j u v hu hv=>(h4 j u v hu hv).mono fun b i hs=>⟨hd.AX hs,rfl⟩⟩
  | iter hm=>
   obtain⟨b,h1,bm,h2,h4⟩:=h0;exact⟨b,h1,bm,h2.drop hd hm,h4⟩
  | box hl hc=>
   obtain⟨b,h1,vs,h2,h3,h4⟩:=h0;refine⟨b,h1,vs,h2,h3.trans hl,fun j u' v h7 hv=>?_⟩;rename_i cs cs';have hj:j < cs.length:=by
    rcases P4 j cs'.length with h | h
    .omega
    .simp [List.getElem?_eq_none h] at h7
   exact(h4 j cs[j] v (by simp [hj]) hv).conv hd (hc j _ _ (by simp [hj]) h7)
 .have st:=hs.step;refine⟨st.os,st.tape,st.output,st.size,st.hid,fun b i h0=>⟨hd.AX (st.AX b i h0).1,(st.AX b i h0).2⟩,fun b h8 hf=>⟨(st.far b h8 hf).1,fun id hid=>(st.far b h8 hf).2 id (hd.some hid)⟩,fun id t cs h0=>?_,fun id t cs h0=>?_,fun id t n cs h0=>?_,fun id t k ver xs h0=>?_,fun id t k ver hw h0=>?_⟩
  .obtain⟨e,cs',h1⟩:=st.box id t cs h0;obtain⟨o',h2,h3⟩:=keep id _ _ h0 h1;cases o' <;> simp [Jb.like] at h3;subst h3;exact⟨e,_,h2⟩
  .obtain⟨e,cs',h1⟩:=st.map id t cs h0;obtain⟨o',h2,h3⟩:=keep id _ _ h0 h1;cases o' <;> simp [Jb.like] at h3;subst h3;exact⟨e,_,h2⟩
  .obtain⟨e,n',cs',h1⟩:=st.iter id t n cs h0;obtain⟨o',h2,h3⟩:=keep id _ _ h0 h1;cases o' <;> simp [Jb.like] at h3;subst h3;exact⟨e,_,_,h2⟩
  .obtain⟨v',xs',h1,a0,r⟩:=st.vec id t k ver xs h0;obtain⟨o',h2,h3⟩:=keep id _ _ h0 h1;cases o' <;> simp [Jb.like] at h3;obtain⟨rfl,rfl,rfl,h4⟩:=h3;exact⟨v',_,h2,a0,fun e=>⟨h4.symm.trans (r e).1,(r e).2⟩⟩
  .obtain⟨v',a1,h1,r⟩:=st.spare id t k ver hw h0;obtain⟨o',h2,h3⟩:=keep id _ _ h0 h1;cases o' <;> simp [Jb.like] at h3;obtain⟨rfl,rfl,rfl,rfl⟩:=h3;exact⟨v',a1,h2,r⟩

section flow
variable {P:Program} {N:Cfg} {Q:Post} {l:Fr} {L:Loc}

theorem iV {c:Code} {l':Fr} {L':Loc} (h:Fits N.base l L l' L') (hk:JC P N c Q l' L'):JC P N c Q l L:=
 fun n w0 U0 L0 a w U hs=>hk n w0 U0 L0 a w U (hs.fits h)
theorem dH {body:Code} {X:Type} (I:X->Prop) (F:X->Fr) (M:X->Loc) (W:X->Nat) (x0:X) (h0:I x0) (hf:Fits N.base l L (F x0) (M x0))
  (hr:∀ x,I x->∀ K:Fr->Loc->Prop,(∀ l L x',I x'->W x' < W x->Fits N.base l L (F x') (M x')->K l L)->JC P N body (Q.seq K) (F x) (M x)):JC P N (.loop body) Q l L:=by
 intro n w0 U0 L0 a w U hs b k cs h7 hb h5;have key:∀ m x a w U,W x=m->I x->Qn N w0 U0 L0 a w U (F x) (M x) ->
   ∃ e a' w',Q.out N w0 U0 L0 e a' w'/\ArrivesIn (Machine.fenced P (FR N.ro)) P (lone (b.atR a (.code body::.inLoop body::k)) cs w) b k cs e a' w':=by
  intro m
  induction m using Nat.strongRecOn with
  | _ m ih=>
   intro x a w U hn hI hs;obtain⟨e,a₁,w₁,hq,h4⟩:=hr x hI (fun l L=>∃ x',I x'/\W x' < W x/\Fits N.base l L (F x') (M x')) (fun l L x' h1 h2 h3=>⟨x',h1,h2,h3⟩) n w0 U0 L0 a w U hs b (.inLoop body::k) cs h7 hb h5;cases e with
   | normal=>
    obtain⟨U',l',L',h8,x',h9,a0,h6⟩:=hq;obtain⟨e₂,a₂,w₂,hq₂,harr₂⟩:=ih (W x') (hn ▸ a0) x' a₁ w₁ U' rfl h9 (h8.fits h6);exact⟨e₂,a₂,w₂,hq₂,.of_steps (StepsIn.trans h4 (.one (fenced_calm hb h5 rfl) stepR_inLoop)) harr₂⟩
   | exit id=>exact⟨.exit id,a₁,w₁,hq,.pass (x:=.inLoop body) rfl (fun _ _=>.inl (by simp)) h4⟩
   | goto l=>exact hq.elim
   | ret=>exact⟨.ret,a₁,w₁,hq,.pass (x:=.inLoop body) rfl (fun _ _=>.inl (by simp)) h4⟩
   | panic ch=>exact hq.elim
   | outgrown=>exact hq.elim
 obtain⟨e,a',w',hq,h4⟩:=key _ x0 a w U rfl h0 (hs.fits hf);exact⟨e,a',w',hq,.of_steps (.one (fenced_calm hb h5 rfl) stepR_loop) h4⟩
end flow

/-! ### Shorter forms, for printed texts -/
section short
variable {P:Program} {N:Cfg} {Q:Post} {l:Fr} {L:Loc} {ops:Array Oper} {o:Oper} {rest:AM}
variable {y:Code}
theorem Js {x:Code} (h:∀ {K:Fr->Loc->Prop},(∀ {l L},JC P N y Q l L->K l L)->JC P N x (Q.seq K) l L):JC P N (.seq x y) Q l L:=G4 fun K hK=>h (hK _ _)
theorem Jr {id:Nat} {ops:AM} (h:∀ {K:Fr->Loc->Prop},(∀ {l L},JC P N y Q l L->K l L)->JL P N ops.toArray ops (Q.seq K) l L):JC P N (.seq (.region id ops.toArray false) y) Q l L:=G4 fun K hK=>G1 (h (hK _ _))
def Q8d (o:Oper):Bool:=match o.op with
 | .move _ | .assign _=>true
 | _=>false
def Q92 (l:Fr) (o:Oper):AV:=match o.op with
 | .move x | .assign x=>ev l x
 | _=>.AL
theorem J94 (v:AV) (hm:Q8d o=true:=by rfl) (hx:Q92 l o=v:=by rfl):Gy P o l L (Is v L):=by
 intro a w U K R h0 hf hK;unfold Q8d at hm;unfold Q92 at hx;subst hx;cases ho:o.op <;> rw [ho] at hm <;> first | cases hm | skip
 all_goals
  unfold Oper.wp;simp only [execOp,ho,Sem.run_pure];refine hK _ _ _ w U ⟨rfl,rfl⟩ h0 (Step.refl w U L) ?_;rw [ho];exact hf.ev _
theorem JLm (v:AV) {d:Nat} (hd:o.dst=some d) (hk:JL P N ops rest Q ((d,v)::l) L) (hm:Q8d o=true:=by rfl) (hx:Q92 l o=v:=by rfl) (hg:o.guard=none:=by rfl) (hn:Nat.blt d N.n=true:=by rfl) (h0:bL o=true:=by rfl):JL P N ops (o::rest) Q l L:=G0 (J94 v hm hx) hk hg hd hn h0
theorem JCc {c:Operand} {x:Code} {b:Bool} {U:Type} {A B R:U} (hc:ev l c=.sc (.bool b)) (h:(bif b then A else B)=R) (ht:A=R->b=true->JC P N x Q l L) (hf:B=R->b=false->JC P N y Q l L):JC P N (.cond c x y) Q l L:=
 Gh hc (fun e=>ht (by rw [<- h,e]; rfl) e) (fun e=>hf (by rw [<- h,e]; rfl) e)
end short

/-! ### The beginning and the end of a call -/
def kM:Nat->AD->Fr
 | _,[]=>[]
 | n,a::r=>(n,a)::kM (n+1) r

theorem sF:∀ (n:Nat) (aQ:AD) (t:Nat),look (kM n aQ) t=if n<=t then (aQ[t - n]?).getD .AL else .AL
 | n,[],t=>by simp [kM,look]
 | n,a::r,t=>by
  by_cases e:n=t
  .subst e; simp [kM,look]
  .have hb:Nat.beq n t=false:=by
    cases hb:Nat.beq n t with
    | false=>rfl
    | true=>exact absurd (P2 hb) e
   simp only [kM,look,hb,cond_false,sF (n+1) r t];by_cases h:n<=t
   .rw [if_pos h,if_pos (by omega)];rw [show t - n=(t - (n+1))+1 by omega,List.getElem?_cons_succ]
   .rw [if_neg h,if_neg (by omega)]

def Post.fin (F:Fr->Loc->Prop):Post:=⟨F,F,fun _ _ _=>False⟩

variable {o o':Obj}
theorem kR {D:Nat} (hD:w.heap[D]? = some o) (ho:(∀ vs t f,o≠.cells vs t f)/\∀ e n,o≠.map e n) (h0:(∀ vs t f,o'≠.cells vs t f)/\∀ e n,o'≠.map e n) (b i:Nat):Qf (w.putObj D o') b i=Qf w b i:=by
 by_cases e:b=D
 .subst e;unfold Qf Gd3 ZR World.cell?;simp only [World.putObj_heap_same (Nz hD).1,hD];cases o <;> cases o' <;> simp_all
 .exact Jc (w:=w) (World.putObj_heap_other e)
theorem rX {D B:Nat} (hD:w.heap[D]? = some o) (ho:(∀ vs t f,o≠.cells vs t f)/\∀ e n,o≠.map e n) (h0:(∀ vs t f,o'≠.cells vs t f)/\∀ e n,o'≠.map e n) (hL:∀ id,(lk L id).isSome=true->U id≠some D)
  (w0:World) (U0:Gx) (L0:Loc) (hB:w0.heap.size<=B) (h5:B<=D) (hs:Step w0 U0 L0 w U L):Step w0 U0 L0 (w.putObj D o') U L:=by
 have hx:∀ id b,(lk L id).isSome=true->U id=some b->(w.putObj D o').heap[b]? = w.heap[b]? := fun id b h1 h2=>World.putObj_heap_other fun e=>hL id h1 (by rw [h2,e]);refine⟨hs.os,hs.tape,hs.output,by rw [World.putObj_size]; exact hs.size,hs.hid,fun b i h=>?_,fun b hb hf=>?_,hs.box,hs.map,hs.iter,fun id t k ver xs h=>?_,fun id t k ver hw h=>?_⟩
 .obtain⟨h1,h2⟩:=hs.AX b i h;exact⟨⟨by rw [World.putObj_size]; exact h1.lt,h1.seen,h1.kept⟩,(kR hD ho h0 _ _).trans h2⟩
 .obtain⟨h1,h2⟩:=hs.far b hb hf;exact⟨(World.putObj_heap_other (by omega)).trans h1,h2⟩
 .obtain⟨v',xs',h1,h2,h3⟩:=hs.vec id t k ver xs h;refine⟨v',xs',h1,h2,fun e=>?_⟩;obtain⟨a1,a2,a3⟩:=h3 e;refine⟨a1,a2,fun b hb=>?_⟩;rw [<- a3 b hb];have:=hx id b (by rw [h1]; rfl) (a2.trans hb);unfold World.shape?;rw [this]
 .obtain⟨v',h4,h1,h2,h3⟩:=hs.spare id t k ver hw h;refine⟨v',h4,h1,h2,fun e=>?_⟩;obtain⟨a1,a2,a3⟩:=h3 e;exact⟨a1,a2,fun b hb=>(hx id b (by rw [h1]; rfl) (a2.trans hb)).trans (a3 b hb)⟩
theorem dP {D:Nat} (hD:w.heap[D]? = some o) (ho:(∀ vs t f,o≠.cells vs t f)/\∀ e n,o≠.map e n) (h0:(∀ vs t f,o'≠.cells vs t f)/\∀ e n,o'≠.map e n) (hL:∀ id,(lk L id).isSome=true->U id≠some D):mI w U L (w.putObj D o') U L:=by
 have hx:∀ id b,(lk L id).isSome=true->U id=some b->(w.putObj D o').heap[b]? = w.heap[b]? := fun id b h1 h2=>World.putObj_heap_other fun e=>hL id h1 (by rw [h2,e]);exact⟨fun b i h=>⟨⟨by rw [World.putObj_size]; exact h.lt,h.seen,h.kept⟩,kR hD ho h0 _ _⟩,fun _ _ cs h=>⟨rfl,cs,h⟩,fun _ _ es h=>⟨rfl,es,h⟩,fun _ _ n es h=>⟨rfl,n,es,h⟩,
  fun id _ _ ver xs h=>⟨ver,xs,h,Pf,fun _=>⟨rfl,rfl,fun b hb=>bK (hx id b (by rw [h]; rfl) hb)⟩⟩,
  fun id _ _ ver hw h=>⟨ver,hw,h,Pf,fun _=>⟨rfl,rfl,fun b hb=>hx id b (by rw [h]; rfl) hb⟩⟩⟩
theorem mQ {D:Nat} (hD:w.heap[D]? = some o) (ho:(∀ vs t f,o≠.cells vs t f)/\∀ e n,o≠.map e n) (h0:(∀ vs t f,o'≠.cells vs t f)/\∀ e n,o'≠.map e n) (hL:∀ id,(lk L id).isSome=true->U id≠some D)
  (h:Sat w U L):Sat (w.putObj D o') U L:=
 ⟨fun b i hh=>by rw [World.putObj_size]; exact h.hid b i hh,fun id b h1 h2=>by rw [World.putObj_size]; exact h.bnd id b h1 h2,h.apart,h.inj,
  fun id o hi=>(h.obj id o hi).stepW (dP hD ho h0 hL) (fun b hb=>World.putObj_heap_other fun e=>hL id (by rw [hi]; rfl) (by rw [hb,e]))⟩

theorem Qn.leaves {F:Fence} {n:Nat} {P:Program} {fn:Func} {R:Ending->World->Prop} {N:Cfg} {w0:World} {U0 U:Gx} {L0 L:Loc} {l:Fr} {tmps:Array Value} :
  ∀ {ds:List Deferred} {w:World},Qn N w0 U0 L0 { tmps:=tmps,defers:=ds } w U l L->(∀ w'',Qn N w0 U0 L0 { tmps:=tmps,defers:=[] } w'' U l L->LeavesIn F n P fn tmps R [] .returning w'')->LeavesInM F n P fn tmps R ds .returning w
 | [],w,hs,h=>h w hs
 | d::ds,w,hs,h=>by
  obtain⟨D,rfl,hB,hD,hL⟩:=hs.defers.each d (List.mem_cons_self ..);refine⟨by simp,.inl ⟨D,w.putObj D (.deferred none),rfl,run_takeDeferred hD,Qn.leaves ?_ h⟩⟩;have hn:=List.nodup_cons.1 hs.defers.nodup;refine⟨mQ hD (by simp) (by simp) hL hs.sat,rX hD (by simp) (by simp) hL w0 U0 L0 (Pf) hB hs.step,⟨fun t=>(hs.frame.tmp t).stepW (dP hD (by simp) (by simp) hL)⟩,hs.size,hs.base,fun h=>(by have:=hs.defers.top h; cases this),hn.2,fun d' h0=>?_⟩;obtain⟨D',rfl,h1,h2,h3⟩:=hs.defers.each d' (List.mem_cons_of_mem _ h0);exact⟨D',rfl,h1,(World.putObj_heap_other (fun e=>hn.1 (by rw [<- e]; exact h0))).trans h2,h3⟩
theorem vV {P:Program} {f:FuncId} {fn:Func} {c:Code} {args:AD} {L0:Loc} {R:AV->Loc->Prop} {base:AI} {F:Fr->Loc->Prop} (hf:P.funcs[f]? = some fn) (hb:fn.body=some c)
  (h0:∀ id,(lk L0 id).isSome=true->id∈base)
  (hF:∀ w0 U0 a w U l L,Qn ⟨fn.ntmps,base,none⟩ w0 U0 L0 a w U l L->F l L->∃ v r L',(results fn a.tmps).run P w=.ok v w/\Sat w U L'/\Step w0 U0 L0 w U L'/\V w U L' r v/\R r L')
  (h:JC P ⟨fn.ntmps,base,none⟩ c (.fin F) (kM 0 args) L0):Q2 P f args L0 R:=by
 intro w U vs h6 hl hv;refine callsIn_wide.1 (callsIn_of_wp_marks (F:=Fence.wide) (n:=0) hf hb trivial (Code.wpIn_mono (fun e a' w' q=>?_) (h 0 w U L0 _ w U ⟨h6,Step.refl _ _ _,⟨fun t=>?_⟩,?_,h0,.nil⟩)))
 .have fin:(∃ U' l' L',Qn ⟨fn.ntmps,base,none⟩ w U L0 a' w' U' l' L'/\F l' L')->LeavesInM Fence.wide 0 P fn a'.tmps (fun e w'=>∃ v r U' L',e=.returned v/\Sat w' U' L'/\Step w U L0 w' U' L'/\V w' U' L' r v/\R r L') a'.defers .returning w':=by
   rintro⟨U',l',L',hs,hq⟩;refine Qn.leaves (tmps:=a'.tmps) (ds:=a'.defers) hs fun w'' h7=>?_;obtain⟨v,r,L'',h1,h2,h3,h4,h5⟩:=hF w U _ w'' U' l' L' h7 hq;exact⟨v,h1,v,r,U',L'',rfl,h2,h3,h4,h5⟩
  cases e with
  | normal=>exact fin q
  | ret=>exact fin q
  | exit i=>obtain⟨_,_,_,_,hq⟩:=q; exact hq.elim
  | goto l=>exact q.elim
  | panic c=>exact q.elim
  | outgrown=>exact q.elim
 .rw [sF];simp only [Nat.zero_le,if_true,Nat.sub_zero];cases hu:args[t]? with
  | none=>exact .AL
  | some u=>
   have ht:t < vs.size:=by
    rcases P4 t args.length with h | h
    .omega
    .simp [List.getElem?_eq_none h] at hu
   have e:(vs++Array.replicate (fn.ntmps - vs.size) undef).getD t undef=vs[t]:=by
    rw [Array.getD_eq_getD_getElem?,Array.getElem?_append_left ht]; simp [ht]
   rw [e];exact hv t u _ hu (by simp [ht])
 .simp; omega

end Go.Proofs.YtbgfgnddogfpcaaGreat
