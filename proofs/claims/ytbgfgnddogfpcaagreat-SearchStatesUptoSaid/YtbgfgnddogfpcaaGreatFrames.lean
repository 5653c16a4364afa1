/- Calls that work on some of the caller's local objects,and ma -/
import Derived.Test.YtbgfgnddogfpcaaGreatEnds
namespace Go.Proofs.YtbgfgnddogfpcaaGreat
open Go.RowKit

def inL (L:Loc) (i:Nat):Bool:=(lk L i).isSome
def qA (L L0:Loc):Loc:=L.filter fun p=>!inL L0 p.1
theorem H02:∀ (L L0:Loc) (id:Nat),lk (qA L L0) id=if inL L0 id=true then none else lk L id
 | [],L0,id=>by simp [qA,lk]
 | (i,o)::r,L0,id=>by
  have ih:=H02 r L0 id;unfold qA at ih ⊢;rw [List.filter_cons,Ge];by_cases hi:inL L0 i=true
  .rw [if_neg (by simp [hi]),ih];by_cases e:i=id
   .subst e; simp [hi]
   .simp [e]
  .rw [if_pos (by simpa using hi),Ge,ih];by_cases e:i=id
   .subst e; simp [hi]
   .simp [e]
theorem Gd5:∀ (L M:Loc) (id:Nat),lk (L++M) id=if inL L id=true then lk L id else lk M id
 | [],M,id=>by simp [inL,lk]
 | (i,o)::r,M,id=>by
  have ih:=Gd5 r M id;rw [List.cons_append,Ge,Ge,ih];by_cases e:i=id
  .subst e; simp [inL,Ge]
  .rw [if_neg e,if_neg e]; simp only [inL,Ge,if_neg e]; rfl
def oG (L L0 L':Loc):Loc:=L'++qA L L0
def qM (U U':Gx) (L0 L':Loc):Gx:=⟨fun id=>if inL L' id=true\/inL L0 id=true then U'.at_ id else U.at_ id,U.hid⟩

def Jb.refs (ok:Nat->Bool):Jb->Bool
 | .box _ cs=>Qr ok cs
 | .iter m _ _=>m.refs ok
 | _=>true
variable {U U0:Gx} {L L0:Loc} {w:World}
theorem V.down (hS:∀ b i,Hs w U L b i->Hs w U0 L0 b i) (hid:∀ id o,lk L0 id=some o->lk L id=some o/\U0.at_ id=U.at_ id) {u:AV} {v:Value} (h:V w U L u v) :
  u.refs (inL L0)=true->V w U0 L0 u v:=by
 have mono:∀ {u v},D w (Hs w U L) u v->D w (Hs w U0 L0) u v:=fun h=>h.mono fun b i hs=>⟨hS b i hs,rfl⟩;have mem:∀ {cs:AD},Qr (inL L0) cs=true->∀ (j:Nat) u,cs[j]? = some u->u.refs (inL L0)=true:=
  fun h j u hu=>Yz h u (Pd hu)
 have get:∀ {i o},inL L0 i=true->lk L i=some o->lk L0 i=some o/\U0.at_ i=U.at_ i:=fun hi ho=>by
  obtain⟨o',h5⟩:=Ny hi;obtain⟨h1,h2⟩:=hid _ o' h5;rw [ho] at h1; cases h1;exact⟨h5,h2⟩
 induction h with
 | data h=>exact fun _=>.data (mono h)
 | agg hl _ ih=>exact fun hr=>.agg hl fun j u v hu hv=>ih j u v hu hv (mem (by simpa [AV.refs] using hr) j u hu)
 | tup hl _ ih=>exact fun hr=>.tup hl fun j u v hu hv=>ih j u v hu hv (mem (by simpa [AV.refs] using hr) j u hu)
 | fn hl _ ih=>exact fun hr=>.fn hl fun j u v hu hv=>ih j u v hu hv (mem (by simpa [AV.refs] using hr) j u hu)
 | bfn hl _ ih=>exact fun hr=>.bfn hl fun j u v hu hv=>ih j u v hu hv (mem (by simpa [AV.refs] using hr) j u hu)
 | opt _ h0 ih=>exact fun hr=>.opt (fun e=>ih e (by simpa [AV.refs] using hr)) h0
 | ptr hi h=>intro hr; obtain⟨h1,h2⟩:=get (by simpa [AV.refs] using hr) hi; exact .ptr h1 (h2.trans h)
 | ms hi h hn hm=>intro hr; obtain⟨h1,h2⟩:=get (by simpa [AV.refs] using hr) hi; exact .ms h1 (h2.trans h) hn hm
 | mp hi h=>intro hr; obtain⟨h1,h2⟩:=get (by simpa [AV.refs] using hr) hi; exact .mp h1 (h2.trans h)
 | it hi h=>intro hr; obtain⟨h1,h2⟩:=get (by simpa [AV.refs] using hr) hi; exact .it h1 (h2.trans h)
 | vec hp hv=>
  intro hr;obtain⟨t,ver',xs,hi,h3,hx⟩:=hp;obtain⟨h1,h2⟩:=get (by simpa [AV.refs] using hr) hi;exact .vec ⟨t,ver',xs,h1,h3,fun e=>⟨(hx e).1,by rw [h2]; exact(hx e).2⟩⟩ hv
 | BO hp hv=>
  intro hr;obtain⟨t,k,ver',xs,hi,h3,hx⟩:=hp;obtain⟨h1,h2⟩:=get (by simpa [AV.refs] using hr) hi;exact .BO ⟨t,k,ver',xs,h1,h3,fun e=>by rw [h2]; exact hx e⟩ hv
 | vcap hp hv=>
  intro hr;obtain⟨t,ver',xs,hi,h3,hx⟩:=hp;obtain⟨h1,h2⟩:=get (by simpa [AV.refs] using hr) hi;exact .vcap ⟨t,ver',xs,h1,h3,fun e=>by rw [h2]; exact hx e⟩ hv
 | nst vs hi h3 h4 h6 _ hv ih=>
  intro hr;simp only [AV.refs,Pp] at hr;obtain⟨h1,h2⟩:=get hr.1 hi;exact .nst vs h1 h3 (fun e=>by rw [h2]; exact h4 e) (fun e j u x hu hx=>mono (h6 e j u x hu hx)) (fun x e h0 hx=>ih x e h0 hx hr.2) hv
 | nptr b vs hi h3 h4 _ hv ih=>
  intro hr;simp only [AV.refs,Pp] at hr;obtain⟨h1,h2⟩:=get hr.1 hi;exact .nptr b vs h1 h3 (fun e=>by rw [h2]; exact h4 e) (fun x e hx=>ih x e hx hr.2) hv
 | vsl hp hv=>
  intro hr;obtain⟨t,ver',xs,hi,h3,hx⟩:=hp;obtain⟨h1,h2⟩:=get (by simpa [AV.refs] using hr) hi;exact .vsl ⟨t,ver',xs,h1,h3,fun e=>by rw [h2]; exact hx e⟩ hv
 | own hd hp=>
  intro hr;obtain⟨t,ver',hw,hi,h3,hx⟩:=hp;obtain⟨h1,h2⟩:=get (by simpa [AV.refs] using hr) hi;refine .own (mono hd) ⟨t,ver',hw,h1,h3,fun e=>?_⟩;obtain⟨a1,a2,vals,a3,a4⟩:=hx e;refine⟨a1,a2.trans h2.symm,vals,a3,fun j u hu=>?_⟩;obtain⟨x,h7,h8⟩:=a4 j u hu;exact⟨x,h7,mono h8⟩

theorem V.up (hS:∀ b i,Hs w U L b i->Hs w U0 L0 b i) (hid:∀ id o,lk L id=some o->lk L0 id=some o/\U0.at_ id=U.at_ id) {u:AV} {v:Value} (h:V w U L u v):V w U0 L0 u v:=by
 have mono:∀ {u v},D w (Hs w U L) u v->D w (Hs w U0 L0) u v:=fun h=>h.mono fun b i hs=>⟨hS b i hs,rfl⟩
 induction h with
 | data h=>exact .data (mono h)
 | agg hl _ ih=>exact .agg hl ih
 | tup hl _ ih=>exact .tup hl ih
 | fn hl _ ih=>exact .fn hl ih
 | bfn hl _ ih=>exact .bfn hl ih
 | opt _ h0 ih=>exact .opt ih h0
 | ptr hi h=>obtain⟨h1,h2⟩:=hid _ _ hi; exact .ptr h1 (h2.trans h)
 | ms hi h hn hm=>obtain⟨h1,h2⟩:=hid _ _ hi; exact .ms h1 (h2.trans h) hn hm
 | mp hi h=>obtain⟨h1,h2⟩:=hid _ _ hi; exact .mp h1 (h2.trans h)
 | it hi h=>obtain⟨h1,h2⟩:=hid _ _ hi; exact .it h1 (h2.trans h)
 | vec hp hv=>
  obtain⟨t,ver',xs,hi,h3,hx⟩:=hp;obtain⟨h1,h2⟩:=hid _ _ hi;exact .vec ⟨t,ver',xs,h1,h3,fun e=>⟨(hx e).1,by rw [h2]; exact(hx e).2⟩⟩ hv
 | BO hp hv=>
  obtain⟨t,k,ver',xs,hi,h3,hx⟩:=hp;obtain⟨h1,h2⟩:=hid _ _ hi;exact .BO ⟨t,k,ver',xs,h1,h3,fun e=>by rw [h2]; exact hx e⟩ hv
 | vcap hp hv=>
  obtain⟨t,ver',xs,hi,h3,hx⟩:=hp;obtain⟨h1,h2⟩:=hid _ _ hi;exact .vcap ⟨t,ver',xs,h1,h3,fun e=>by rw [h2]; exact hx e⟩ hv
 | nst vs hi h3 h4 h5 _ hv ih=>
  obtain⟨h1,h2⟩:=hid _ _ hi;exact .nst vs h1 h3 (fun e=>by rw [h2]; exact h4 e) (fun e j u x hu hx=>mono (h5 e j u x hu hx)) (fun x e h0 hx=>ih x e h0 hx) hv
 | nptr b vs hi h3 h4 _ hv ih=>
  obtain⟨h1,h2⟩:=hid _ _ hi;exact .nptr b vs h1 h3 (fun e=>by rw [h2]; exact h4 e) (fun x e hx=>ih x e hx) hv
 | vsl hp hv=>
  obtain⟨t,ver',xs,hi,h3,hx⟩:=hp;obtain⟨h1,h2⟩:=hid _ _ hi;exact .vsl ⟨t,ver',xs,h1,h3,fun e=>by rw [h2]; exact hx e⟩ hv
 | own hd hp=>
  obtain⟨t,ver',hw,hi,h3,hx⟩:=hp;obtain⟨h1,h2⟩:=hid _ _ hi;refine .own (mono hd) ⟨t,ver',hw,h1,h3,fun e=>?_⟩;obtain⟨a1,a2,vals,a3,a4⟩:=hx e;refine⟨a1,a2.trans h2.symm,vals,a3,fun j u hu=>?_⟩;obtain⟨x,h6,h7⟩:=a4 j u hu;exact⟨x,h6,mono h7⟩

theorem kU.up (hS:∀ b i,Hs w U L b i->Hs w U0 L0 b i) (hid:∀ id o,lk L id=some o->lk L0 id=some o/\U0.at_ id=U.at_ id) {ob:Option Nat} {o:Jb} (h:kU w U L ob o):kU w U0 L0 ob o:=by
 have mono:∀ {u v},D w (Hs w U L) u v->D w (Hs w U0 L0) u v:=fun h=>h.mono fun b i hs=>⟨hS b i hs,rfl⟩;cases o with
 | box t cs=>
  obtain⟨b,hb,vs,h1,h2,h3⟩:=h;exact⟨b,hb,vs,h1,h2,fun j u v hu hv=>(h3 j u v hu hv).up hS hid⟩
 | spare t k ver hw=>exact h
 | vec t k ver xs=>
  refine⟨h.1,h.2.imp id ?_⟩;rintro⟨b,hb,vs,h1,h2,h3⟩;exact⟨b,hb,vs,h1,h2,fun j u v hu hv=>mono (h3 j u v hu hv)⟩
 | map t es=>
  obtain⟨b,hb,h⟩:=h;exact⟨b,hb,h.mono rfl mono⟩
 | iter m n seen=>
  obtain⟨b,hb,bm,h1,h3⟩:=h;exact⟨b,hb,bm,h1.up hS hid,h3⟩
 | pin t b cs=>
  obtain⟨hb,vs,h1,h2,h3⟩:=h;exact⟨hb,vs,h1,h2,fun j u v hu hv=>mono (h3 j u v hu hv)⟩

theorem kU.down (hS:∀ b i,Hs w U L b i->Hs w U0 L0 b i) (hid:∀ id o,lk L0 id=some o->lk L id=some o/\U0.at_ id=U.at_ id) {ob:Option Nat} {o:Jb} (h:kU w U L ob o) (hr:o.refs (inL L0)=true):kU w U0 L0 ob o:=by
 have mono:∀ {u v},D w (Hs w U L) u v->D w (Hs w U0 L0) u v:=fun h=>h.mono fun b i hs=>⟨hS b i hs,rfl⟩;cases o with
 | box t cs=>
  obtain⟨b,hb,vs,h1,h2,h3⟩:=h;exact⟨b,hb,vs,h1,h2,fun j u v hu hv=>(h3 j u v hu hv).down hS hid (Yz (by simpa [Jb.refs] using hr) u (Pd hu))⟩
 | spare t k ver hw=>exact h
 | vec t k ver xs=>
  refine⟨h.1,h.2.imp id ?_⟩;rintro⟨b,hb,vs,h1,h2,h3⟩;exact⟨b,hb,vs,h1,h2,fun j u v hu hv=>mono (h3 j u v hu hv)⟩
 | map t es=>
  obtain⟨b,hb,h⟩:=h;exact⟨b,hb,h.mono rfl mono⟩
 | iter m n seen=>
  obtain⟨b,hb,bm,h1,h3⟩:=h;exact⟨b,hb,bm,h1.down hS hid (by simpa [Jb.refs] using hr),h3⟩
 | pin t b cs=>
  obtain⟨hb,vs,h1,h2,h3⟩:=h;exact⟨hb,vs,h1,h2,fun j u v hu hv=>mono (h3 j u v hu hv)⟩

theorem G5c {P:Program} {f:FuncId} {args:AD} {R:AV->Loc->Prop} (hc:Q2 P f args L0 R) (h8:Sat w U L)
  (a1:∀ id o,lk L0 id=some o->lk L id=some o) (b1:∀ id o,lk L0 id=some o->o.refs (inL L0)=true) {vs:Array Value} (hl:vs.size=args.length)
  (hv:∀ (j:Nat) u v,args[j]? = some u->vs[j]? = some v->V w U L u v/\u.refs (inL L0)=true)
  (a9:∀ r L',R r L'->∀ id,inL L' id=true->inL L0 id=true\/lk L id=none) :
  Calls P f vs w fun e w'=>∃ v r U' L',e=.returned v/\R r L'/\Sat w' (qM U U' L0 L') (oG L L0 L')/\Step w U L w' (qM U U' L0 L') (oG L L0 L')/\V w' (qM U U' L0 L') (oG L L0 L') r v:=by
 let U0:Gx:=⟨fun id=>if inL L0 id=true then U.at_ id else none,fun b i=>b < w.heap.size/\¬ Hs w U L b i/\∀ id,inL L0 id=true->U.at_ id≠some b⟩
 have a0:∀ id,inL L0 id=true->∃ o,lk L0 id=some o/\lk L id=some o:=fun id h=>by
  obtain⟨o,ho⟩:=Ny h;exact⟨o,ho,a1 id o ho⟩
 have b0:∀ id b,U0.at_ id=some b->inL L0 id=true/\U.at_ id=some b:=fun id b h=>by
  by_cases hi:inL L0 id=true
  .exact⟨hi,by simpa [U0,hi] using h⟩
  .simp [U0,hi] at h
 have isL:∀ id,inL L0 id=true->(lk L id).isSome=true:=fun id h=>by
  obtain⟨o,_,ho⟩:=a0 id h;rw [ho]; rfl
 have hS:∀ b i,Hs w U L b i->Hs w U0 L0 b i:=fun b i hs=>⟨hs.lt,fun h=>h.2.1 hs,fun id o ho hb=>hs.kept id o (a1 id o ho) (b0 id b hb).2⟩;have hid:∀ id o,lk L0 id=some o->lk L id=some o/\U0.at_ id=U.at_ id:=fun id o ho=>⟨a1 id o ho,by
  have:inL L0 id=true:=by unfold inL; rw [ho]; rfl
  simp [U0,this]⟩
 have sat0:Sat w U0 L0:=⟨fun b i h=>h.1,fun id b h1 h2=>h8.bnd id b (isL id h1) (b0 id b h2).2,fun id b j h1 h2 h3=>h3.2.2 id h1 (b0 id b h2).2,
  fun id id' b h1 h2 h3 h4=>h8.inj id id' b (isL id h1) (isL id' h2) (b0 id b h3).2 (b0 id' b h4).2,
  fun id o ho=>by
   have:=(h8.obj id o (a1 id o ho)).down hS hid (b1 id o ho);rw [(hid id o ho).2]; exact this⟩
 refine(hc w U0 vs sat0 hl (fun j u v hu a8=>(hv j u v hu a8).1.down hS hid (hv j u v hu a8).2)).mono fun e w' h=>?_;obtain⟨v,r,U',L',he,sat',st,b2,hR⟩:=h;have b3:=a9 r L' hR;have a4:∀ id,lk (oG L L0 L') id=if inL L' id=true then lk L' id else if inL L0 id=true then none else lk L id:=fun id=>by
  unfold oG; rw [Gd5,H02]
 have a5:∀ id,(qM U U' L0 L').at_ id=if inL L' id=true\/inL L0 id=true then U'.at_ id else U.at_ id:=fun id=>rfl;have h9:∀ id o,lk (oG L L0 L') id=some o->inL L' id=false->inL L0 id=false/\lk L id=some o/\(qM U U' L0 L').at_ id=U.at_ id:=fun id o h1 h2=>by
  rw [a4,if_neg (by simp [h2])] at h1;by_cases h3:inL L0 id=true
  .rw [if_pos h3] at h1; cases h1
  .rw [if_neg h3] at h1;exact⟨by simpa using h3,h1,by rw [a5,if_neg (by simp [h2,h3])]⟩
 have h7:∀ id o,lk L id=some o->inL L0 id=false->lk (oG L L0 L') id=some o/\(qM U U' L0 L').at_ id=U.at_ id:=fun id o h1 h2=>by
  have h3:inL L' id=false:=by
   cases h3:inL L' id with
   | false=>rfl
   | true=>
    rcases b3 id h3 with h4 | h4
    .rw [h2] at h4; cases h4
    .rw [h1] at h4; cases h4
  exact⟨by rw [a4,if_neg (by simp [h3]),if_neg (by simp [h2])]; exact h1,by rw [a5,if_neg (by simp [h2,h3])]⟩
 have h6:∀ id o,lk L' id=some o->lk (oG L L0 L') id=some o/\(qM U U' L0 L').at_ id=U'.at_ id:=fun id o ho=>by
  have:inL L' id=true:=by unfold inL; rw [ho]; rfl
  exact⟨by rw [a4,if_pos this]; exact ho,by rw [a5,if_pos (.inl this)]⟩
 have a6:∀ b i,b < w.heap.size->(U'.hid b i ↔ U0.hid b i):=st.hid
 -- what is not hidden from the call is not hidden from the caller's own callers
 have nothid:∀ b i,¬ U'.hid b i->¬ U.hid b i:=fun b i hn hh=>by
  have hb:=h8.hid b i hh;rw [a6 b i hb] at hn;refine hn ⟨hb,fun hs=>hs.seen hh,fun id h1 h2=>h8.apart id b i (isL id h1) h2 hh⟩
 have farrest:∀ id o b,lk L id=some o->inL L0 id=false->U.at_ id=some b->b < w.heap.size/\(∀ id',inL L0 id'=true->U0.at_ id'≠some b):=fun id o b h1 h2 h3=>by
  refine⟨h8.bnd id b (by rw [h1]; rfl) h3,fun id' h4 h5=>?_⟩;have:=h8.inj id id' b (by rw [h1]; rfl) (isL id' h4) h3 (b0 id' b h5).2;subst this; rw [h2] at h4; cases h4
 have a3:∀ b i,Hs w' U' L' b i->Hs w' (qM U U' L0 L') (oG L L0 L') b i:=fun b i hs=>by
  refine⟨hs.lt,nothid b i hs.seen,fun id o h1 h2=>?_⟩;cases h3:inL L' id with
  | true=>
   obtain⟨o',h0⟩:=Ny h3;obtain⟨e1,e2⟩:=h6 id o' h0;rw [h1] at e1; cases e1;exact hs.kept id _ h0 (e2 ▸ h2)
  | false=>
   obtain⟨r1,r2,r3⟩:=h9 id o h1 h3;rw [r3] at h2;obtain⟨f1,f2⟩:=farrest id o b r2 r1 h2;have hn:=hs.seen;rw [a6 b i f1] at hn;have b4:Hs w U L b i:=Classical.byContradiction fun b5=>hn ⟨f1,b5,fun id' h4 h5=>f2 id' h4 (by simp [U0,h4,h5])⟩;exact b4.kept id o r2 h2
 have step:Step w U L w' (qM U U' L0 L') (oG L L0 L'):=by
  refine⟨st.os,st.tape,st.output,st.size,fun _ _ _=>Iff.rfl,fun b i hs=>?_,fun b hb hf=>?_,fun id t cs h1=>?_,fun id t cs h1=>?_,fun id m n es h1=>?_,fun id t k ver xs h1=>?_,fun id t k ver hw h1=>?_⟩
  .obtain⟨s1,s2⟩:=st.AX b i (hS b i hs);exact⟨a3 b i s1,s2⟩
  .obtain⟨f1,f2⟩:=st.far b hb (fun id h1 h2=>hf id (isL id h1) (b0 id b h2).2);refine⟨f1,fun id h1 h2=>?_⟩;obtain⟨o,ho⟩:=Ny h1;cases h3:inL L' id with
   | true=>
    obtain⟨o',h0⟩:=Ny h3;exact f2 id h3 ((h6 id o' h0).2 ▸ h2)
   | false=>
    obtain⟨r1,r2,r3⟩:=h9 id o ho h3;exact hf id (by rw [r2]; rfl) (r3 ▸ h2)
  .cases h2:inL L0 id with
   | true=>
    obtain⟨o,ho,h0⟩:=a0 id h2;rw [h1] at h0; cases h0;obtain⟨s1,cs',s2⟩:=st.box id t cs ho;exact⟨(h6 id _ s2).2.trans (s1.trans (hid id _ ho).2),cs',(h6 id _ s2).1⟩
   | false=>exact⟨(h7 id _ h1 h2).2,cs,(h7 id _ h1 h2).1⟩
  .cases h2:inL L0 id with
   | true=>
    obtain⟨o,ho,h0⟩:=a0 id h2;rw [h1] at h0; cases h0;obtain⟨s1,cs',s2⟩:=st.map id t cs ho;exact⟨(h6 id _ s2).2.trans (s1.trans (hid id _ ho).2),cs',(h6 id _ s2).1⟩
   | false=>exact⟨(h7 id _ h1 h2).2,cs,(h7 id _ h1 h2).1⟩
  .cases h2:inL L0 id with
   | true=>
    obtain⟨o,ho,h0⟩:=a0 id h2;rw [h1] at h0; cases h0;obtain⟨s1,n',cs',s2⟩:=st.iter id m n es ho;exact⟨(h6 id _ s2).2.trans (s1.trans (hid id _ ho).2),n',cs',(h6 id _ s2).1⟩
   | false=>exact⟨(h7 id _ h1 h2).2,n,es,(h7 id _ h1 h2).1⟩
  .cases h2:inL L0 id with
   | true=>
    obtain⟨o,ho,h0⟩:=a0 id h2;rw [h1] at h0; cases h0;obtain⟨ver',xs',s1,s2,s3⟩:=st.vec id t k ver xs ho;refine⟨ver',xs',(h6 id _ s1).1,s2,fun e=>?_⟩;obtain⟨q1,q2,q3⟩:=s3 e;exact⟨q1,(h6 id _ s1).2.trans (q2.trans (hid id _ ho).2),fun b hb=>q3 b ((hid id _ ho).2.trans hb)⟩
   | false=>
    refine⟨ver,xs,(h7 id _ h1 h2).1,Pf,fun _=>⟨rfl,(h7 id _ h1 h2).2,fun b hb=>?_⟩⟩;obtain⟨f1,f2⟩:=farrest id _ b h1 h2 hb;exact bK (st.far b f1 (fun id' h4=>f2 id' h4)).1
  .cases h2:inL L0 id with
   | true=>
    obtain⟨o,ho,h0⟩:=a0 id h2;rw [h1] at h0; cases h0;obtain⟨ver',b6,s1,s2,s3⟩:=st.spare id t k ver hw ho;refine⟨ver',b6,(h6 id _ s1).1,s2,fun e=>?_⟩;obtain⟨q1,q2,q3⟩:=s3 e;exact⟨q1,(h6 id _ s1).2.trans (q2.trans (hid id _ ho).2),fun b hb=>q3 b ((hid id _ ho).2.trans hb)⟩
   | false=>
    refine⟨ver,hw,(h7 id _ h1 h2).1,Pf,fun _=>⟨rfl,(h7 id _ h1 h2).2,fun b hb=>?_⟩⟩;obtain⟨f1,f2⟩:=farrest id _ b h1 h2 hb;exact(st.far b f1 (fun id' h4=>f2 id' h4)).1
 refine⟨v,r,U',L',he,hR,?_,step,b2.up a3 h6⟩;refine⟨fun b i h=>P0 (h8.hid b i h) st.size,fun id b h1 h2=>?_,fun id b j h1 h2=>?_,fun id id' b h1 h2 h3 h4=>?_,fun id o ho=>?_⟩
 .obtain⟨o,ho⟩:=Ny h1;cases h3:inL L' id with
  | true=>
   obtain⟨o',h0⟩:=Ny h3;exact sat'.bnd id b h3 ((h6 id o' h0).2 ▸ h2)
  | false=>
   obtain⟨r1,r2,r3⟩:=h9 id o ho h3;exact P0 (h8.bnd id b (by rw [r2]; rfl) (r3 ▸ h2)) st.size
 .obtain⟨o,ho⟩:=Ny h1;cases h3:inL L' id with
  | true=>
   obtain⟨o',h0⟩:=Ny h3;exact nothid b j (sat'.apart id b j h3 ((h6 id o' h0).2 ▸ h2))
  | false=>
   obtain⟨r1,r2,r3⟩:=h9 id o ho h3;exact h8.apart id b j (by rw [r2]; rfl) (r3 ▸ h2)
 .have key:∀ id id',inL L' id=true->(qM U U' L0 L').at_ id=some b->(lk (oG L L0 L') id').isSome=true->inL L' id'=false->(qM U U' L0 L').at_ id'=some b->False:=by
   intro id id' h3 h2 b7 b8 b9;obtain⟨o',h0⟩:=Ny h3;obtain⟨o2,a2⟩:=Ny b7;obtain⟨r1,r2,r3⟩:=h9 id' o2 a2 b8;obtain⟨f1,f2⟩:=farrest id' o2 b r2 r1 (r3 ▸ b9);exact(st.far b f1 (fun i h=>f2 i h)).2 id h3 ((h6 id o' h0).2 ▸ h2)
  cases e1:inL L' id with
  | true=>
   cases e2:inL L' id' with
   | true=>
    obtain⟨o1,a7⟩:=Ny e1;obtain⟨o2,a2⟩:=Ny e2;exact sat'.inj id id' b e1 e2 ((h6 id o1 a7).2 ▸ h3) ((h6 id' o2 a2).2 ▸ h4)
   | false=>exact(key id id' e1 h3 h2 e2 h4).elim
  | false=>
   cases e2:inL L' id' with
   | true=>exact(key id' id e2 h4 h1 e1 h3).elim
   | false=>
    obtain⟨o1,a7⟩:=Ny h1;obtain⟨o2,a2⟩:=Ny h2;obtain⟨_,r2,r3⟩:=h9 id o1 a7 e1;obtain⟨_,q2,q3⟩:=h9 id' o2 a2 e2;exact h8.inj id id' b (by rw [r2]; rfl) (by rw [q2]; rfl) (r3 ▸ h3) (q3 ▸ h4)
 .cases h3:inL L' id with
  | true=>
   obtain⟨o',h0⟩:=Ny h3;obtain⟨e1,e2⟩:=h6 id o' h0;rw [ho] at e1; cases e1;rw [e2];exact(sat'.obj id _ h0).up a3 h6
  | false=>
   obtain⟨r1,r2,r3⟩:=h9 id o ho h3;rw [r3];exact(h8.obj id o r2).step step (fun b hb=>by
    obtain⟨f1,f2⟩:=farrest id o b r2 r1 hb;exact(st.far b f1 (fun id' h4=>f2 id' h4)).1)
end Go.Proofs.YtbgfgnddogfpcaaGreat
