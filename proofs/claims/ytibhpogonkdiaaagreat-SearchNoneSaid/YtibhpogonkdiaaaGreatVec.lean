/-
 Calls that work on some of the caller's local objects,and ma Slices that the call may write in place:
-/
import Derived.Test.YtibhpogonkdiaaaGreatEnds
set_option linter.unusedVariables false
set_option linter.unusedSimpArgs false
set_option linter.unnecessarySimpa false
namespace Go.Proofs.YtibhpogonkdiaaaGreat
open Go.RowKit

def inL (L:Loc) (i:Nat):Bool:=(lk L i).isSome
def H47 (L L0:Loc):Loc:=L.filter fun p=>!inL L0 p.1
theorem R5e:∀ (L L0:Loc) (id:Nat),lk (H47 L L0) id=if inL L0 id=true then none else lk L id
 | [],L0,id=>by simp [H47,lk]
 | (i,o)::r,L0,id=>by
  have ih:=R5e r L0 id
  unfold H47 at ih ⊢
  rw [List.filter_cons,Gd]
  by_cases hi:inL L0 i=true
  ·rw [if_neg (by simp [hi]),ih]
   by_cases e:i=id
   ·subst e; simp [hi]
   ·simp [e]
  ·rw [if_pos (by simpa using hi),Gd,ih]
   by_cases e:i=id
   ·subst e; simp [hi]
   ·simp [e]
theorem Q2f:∀ (L M:Loc) (id:Nat),lk (L++M) id=if inL L id=true then lk L id else lk M id
 | [],M,id=>by simp [inL,lk]
 | (i,o)::r,M,id=>by
  have ih:=Q2f r M id
  rw [List.cons_append,Gd,Gd,ih]
  by_cases e:i=id
  ·subst e; simp [inL,Gd]
  ·rw [if_neg e,if_neg e]; simp only [inL,Gd,if_neg e]; rfl
def Ge8 (L L0 L':Loc):Loc:=L'++H47 L L0
def H1a (β β':Gu) (L0 L':Loc):Gu:=⟨fun id=>if inL L' id=true∨inL L0 id=true then β'.at_ id else β.at_ id,β.hid⟩

def Je.refs (ok:Nat→Bool):Je→Bool
 | .box _ cs=>Qn ok cs
 | .iter m _ _=>m.refs ok
 | _=>true
theorem V.down {w:World} {β β0:Gu} {L L0:Loc} (hS:∀ b i,Hv w β L b i→Hv w β0 L0 b i) (hid:∀ id o,lk L0 id=some o→lk L id=some o∧β0.at_ id=β.at_ id) {u:AV} {v:Value} (h:V w β L u v) :
  u.refs (inL L0)=true→V w β0 L0 u v:=by
 have mono:∀ {u v},D w (Hv w β L) u v→D w (Hv w β0 L0) u v:=fun h=>h.mono fun b i hs=>⟨hS b i hs,rfl⟩
 have mem:∀ {cs:List AV},Qn (inL L0) cs=true→∀ (j:Nat) u,cs[j]? = some u→u.refs (inL L0)=true:=
  fun h j u hu=>Yt h u (Kz hu)
 have get:∀ {i o},inL L0 i=true→lk L i=some o→lk L0 i=some o∧β0.at_ i=β.at_ i:=fun hi ho=>by
  obtain⟨o',h5⟩:=Kj hi
  obtain⟨h1,h2⟩:=hid _ o' h5
  rw [ho] at h1; cases h1
  exact⟨h5,h2⟩
 induction h with
 | data h=>exact fun _=>.data (mono h)
 | agg hl _ ih=>exact fun hr=>.agg hl fun j u v hu hv=>ih j u v hu hv (mem (by simpa [AV.refs] using hr) j u hu)
 | tup hl _ ih=>exact fun hr=>.tup hl fun j u v hu hv=>ih j u v hu hv (mem (by simpa [AV.refs] using hr) j u hu)
 | fn hl _ ih=>exact fun hr=>.fn hl fun j u v hu hv=>ih j u v hu hv (mem (by simpa [AV.refs] using hr) j u hu)
 | bfn hl _ ih=>exact fun hr=>.bfn hl fun j u v hu hv=>ih j u v hu hv (mem (by simpa [AV.refs] using hr) j u hu)
 | opt _ h0 ih=>exact fun hr=>.opt (fun e=>ih e (by simpa [AV.refs] using hr)) h0
 | ptr hi h=>intro hr; obtain⟨h1,h2⟩:=get (by simpa [AV.refs] using hr) hi; exact .ptr h1 (h2.trans h)
 | ms hi h hn hm=>intro hr; obtain⟨h1,h2⟩:=get (by simpa [AV.refs] using hr) hi; exact .ms h1 (h2.trans h) hn hm
 | mp hi h=>intro hr; obtain⟨h1,h2⟩:=get (by simpa [AV.refs] using hr) hi; exact .mp h1 (h2.trans h)
 | it hi h=>intro hr; obtain⟨h1,h2⟩:=get (by simpa [AV.refs] using hr) hi; exact .it h1 (h2.trans h)
 | vec hp hv=>
  intro hr
  obtain⟨t,ver',xs,hi,h3,hx⟩:=hp
  obtain⟨h1,h2⟩:=get (by simpa [AV.refs] using hr) hi
  exact .vec ⟨t,ver',xs,h1,h3,fun e=>⟨(hx e).1,by rw [h2]; exact(hx e).2⟩⟩ hv
 | vptr hp hv=>
  intro hr
  obtain⟨t,k,ver',xs,hi,h3,hx⟩:=hp
  obtain⟨h1,h2⟩:=get (by simpa [AV.refs] using hr) hi
  exact .vptr ⟨t,k,ver',xs,h1,h3,fun e=>by rw [h2]; exact hx e⟩ hv
 | vcap hp hv=>
  intro hr
  obtain⟨t,ver',xs,hi,h3,hx⟩:=hp
  obtain⟨h1,h2⟩:=get (by simpa [AV.refs] using hr) hi
  exact .vcap ⟨t,ver',xs,h1,h3,fun e=>by rw [h2]; exact hx e⟩ hv
 | nst vs hi h3 h4 h6 _ hv ih=>
  intro hr
  simp only [AV.refs,Ma] at hr
  obtain⟨h1,h2⟩:=get hr.1 hi
  exact .nst vs h1 h3 (fun e=>by rw [h2]; exact h4 e) (fun e j u x hu hx=>mono (h6 e j u x hu hx)) (fun x e h0 hx=>ih x e h0 hx hr.2) hv
 | nptr b vs hi h3 h4 _ hv ih=>
  intro hr
  simp only [AV.refs,Ma] at hr
  obtain⟨h1,h2⟩:=get hr.1 hi
  exact .nptr b vs h1 h3 (fun e=>by rw [h2]; exact h4 e) (fun x e hx=>ih x e hx hr.2) hv
 | vsl hp hv=>
  intro hr
  obtain⟨t,ver',xs,hi,h3,hx⟩:=hp
  obtain⟨h1,h2⟩:=get (by simpa [AV.refs] using hr) hi
  exact .vsl ⟨t,ver',xs,h1,h3,fun e=>by rw [h2]; exact hx e⟩ hv
 | own hd hp=>
  intro hr
  obtain⟨t,ver',hw,hi,h3,hx⟩:=hp
  obtain⟨h1,h2⟩:=get (by simpa [AV.refs] using hr) hi
  refine .own (mono hd) ⟨t,ver',hw,h1,h3,fun e=>?_⟩
  obtain⟨a1,a2,vals,a3,a4⟩:=hx e
  refine⟨a1,a2.trans h2.symm,vals,a3,fun j u hu=>?_⟩
  obtain⟨x,h7,h8⟩:=a4 j u hu
  exact⟨x,h7,mono h8⟩

theorem V.up {w:World} {β β0:Gu} {L L0:Loc} (hS:∀ b i,Hv w β L b i→Hv w β0 L0 b i) (hid:∀ id o,lk L id=some o→lk L0 id=some o∧β0.at_ id=β.at_ id) {u:AV} {v:Value} (h:V w β L u v):V w β0 L0 u v:=by
 have mono:∀ {u v},D w (Hv w β L) u v→D w (Hv w β0 L0) u v:=fun h=>h.mono fun b i hs=>⟨hS b i hs,rfl⟩
 induction h with
 | data h=>exact .data (mono h)
 | agg hl _ ih=>exact .agg hl ih
 | tup hl _ ih=>exact .tup hl ih
 | fn hl _ ih=>exact .fn hl ih
 | bfn hl _ ih=>exact .bfn hl ih
 | opt _ h0 ih=>exact .opt ih h0
 | ptr hi h=>obtain⟨h1,h2⟩:=hid _ _ hi; exact .ptr h1 (h2.trans h)
 | ms hi h hn hm=>obtain⟨h1,h2⟩:=hid _ _ hi; exact .ms h1 (h2.trans h) hn hm
 | mp hi h=>obtain⟨h1,h2⟩:=hid _ _ hi; exact .mp h1 (h2.trans h)
 | it hi h=>obtain⟨h1,h2⟩:=hid _ _ hi; exact .it h1 (h2.trans h)
 | vec hp hv=>
  obtain⟨t,ver',xs,hi,h3,hx⟩:=hp
  obtain⟨h1,h2⟩:=hid _ _ hi
  exact .vec ⟨t,ver',xs,h1,h3,fun e=>⟨(hx e).1,by rw [h2]; exact(hx e).2⟩⟩ hv
 | vptr hp hv=>
  obtain⟨t,k,ver',xs,hi,h3,hx⟩:=hp
  obtain⟨h1,h2⟩:=hid _ _ hi
  exact .vptr ⟨t,k,ver',xs,h1,h3,fun e=>by rw [h2]; exact hx e⟩ hv
 | vcap hp hv=>
  obtain⟨t,ver',xs,hi,h3,hx⟩:=hp
  obtain⟨h1,h2⟩:=hid _ _ hi
  exact .vcap ⟨t,ver',xs,h1,h3,fun e=>by rw [h2]; exact hx e⟩ hv
 | nst vs hi h3 h4 h5 _ hv ih=>
  obtain⟨h1,h2⟩:=hid _ _ hi
  exact .nst vs h1 h3 (fun e=>by rw [h2]; exact h4 e) (fun e j u x hu hx=>mono (h5 e j u x hu hx)) (fun x e h0 hx=>ih x e h0 hx) hv
 | nptr b vs hi h3 h4 _ hv ih=>
  obtain⟨h1,h2⟩:=hid _ _ hi
  exact .nptr b vs h1 h3 (fun e=>by rw [h2]; exact h4 e) (fun x e hx=>ih x e hx) hv
 | vsl hp hv=>
  obtain⟨t,ver',xs,hi,h3,hx⟩:=hp
  obtain⟨h1,h2⟩:=hid _ _ hi
  exact .vsl ⟨t,ver',xs,h1,h3,fun e=>by rw [h2]; exact hx e⟩ hv
 | own hd hp=>
  obtain⟨t,ver',hw,hi,h3,hx⟩:=hp
  obtain⟨h1,h2⟩:=hid _ _ hi
  refine .own (mono hd) ⟨t,ver',hw,h1,h3,fun e=>?_⟩
  obtain⟨a1,a2,vals,a3,a4⟩:=hx e
  refine⟨a1,a2.trans h2.symm,vals,a3,fun j u hu=>?_⟩
  obtain⟨x,h6,h7⟩:=a4 j u hu
  exact⟨x,h6,mono h7⟩

theorem G95.up {w:World} {β β0:Gu} {L L0:Loc} (hS:∀ b i,Hv w β L b i→Hv w β0 L0 b i) (hid:∀ id o,lk L id=some o→lk L0 id=some o∧β0.at_ id=β.at_ id) {ob:Option Nat} {o:Je} (h:G95 w β L ob o):G95 w β0 L0 ob o:=by
 have mono:∀ {u v},D w (Hv w β L) u v→D w (Hv w β0 L0) u v:=fun h=>h.mono fun b i hs=>⟨hS b i hs,rfl⟩
 cases o with
 | box t cs=>
  obtain⟨b,hb,vs,h1,h2,h3⟩:=h
  exact⟨b,hb,vs,h1,h2,fun j u v hu hv=>(h3 j u v hu hv).up hS hid⟩
 | spare t k ver hw=>exact h
 | vec t k ver xs=>
  refine⟨h.1,h.2.imp id ?_⟩
  rintro⟨b,hb,vs,h1,h2,h3⟩
  exact⟨b,hb,vs,h1,h2,fun j u v hu hv=>mono (h3 j u v hu hv)⟩
 | map t es=>
  obtain⟨b,hb,h⟩:=h
  exact⟨b,hb,h.mono rfl mono⟩
 | iter m n seen=>
  obtain⟨b,hb,bm,h1,h3⟩:=h
  exact⟨b,hb,bm,h1.up hS hid,h3⟩
 | pin t b cs=>
  obtain⟨hb,vs,h1,h2,h3⟩:=h
  exact⟨hb,vs,h1,h2,fun j u v hu hv=>mono (h3 j u v hu hv)⟩

theorem G95.down {w:World} {β β0:Gu} {L L0:Loc} (hS:∀ b i,Hv w β L b i→Hv w β0 L0 b i) (hid:∀ id o,lk L0 id=some o→lk L id=some o∧β0.at_ id=β.at_ id) {ob:Option Nat} {o:Je} (h:G95 w β L ob o) (hr:o.refs (inL L0)=true):G95 w β0 L0 ob o:=by
 have mono:∀ {u v},D w (Hv w β L) u v→D w (Hv w β0 L0) u v:=fun h=>h.mono fun b i hs=>⟨hS b i hs,rfl⟩
 cases o with
 | box t cs=>
  obtain⟨b,hb,vs,h1,h2,h3⟩:=h
  exact⟨b,hb,vs,h1,h2,fun j u v hu hv=>(h3 j u v hu hv).down hS hid (Yt (by simpa [Je.refs] using hr) u (Kz hu))⟩
 | spare t k ver hw=>exact h
 | vec t k ver xs=>
  refine⟨h.1,h.2.imp id ?_⟩
  rintro⟨b,hb,vs,h1,h2,h3⟩
  exact⟨b,hb,vs,h1,h2,fun j u v hu hv=>mono (h3 j u v hu hv)⟩
 | map t es=>
  obtain⟨b,hb,h⟩:=h
  exact⟨b,hb,h.mono rfl mono⟩
 | iter m n seen=>
  obtain⟨b,hb,bm,h1,h3⟩:=h
  exact⟨b,hb,bm,h1.down hS hid (by simpa [Je.refs] using hr),h3⟩
 | pin t b cs=>
  obtain⟨hb,vs,h1,h2,h3⟩:=h
  exact⟨hb,vs,h1,h2,fun j u v hu hv=>mono (h3 j u v hu hv)⟩

theorem Jcd {P:Program} {f:FuncId} {args:List AV} {L0 L:Loc} {R:AV→Loc→Prop} (hc:Q2 P f args L0 R) {w:World} {β:Gu} (h8:Sat w β L)
  (a1:∀ id o,lk L0 id=some o→lk L id=some o) (b1:∀ id o,lk L0 id=some o→o.refs (inL L0)=true) {vs:Array Value} (hl:vs.size=args.length)
  (hv:∀ (j:Nat) u v,args[j]? = some u→vs[j]? = some v→V w β L u v∧u.refs (inL L0)=true)
  (a9:∀ r L',R r L'→∀ id,inL L' id=true→inL L0 id=true∨lk L id=none) :
  Calls P f vs w fun e w'=>∃ v r β' L',e=.returned v∧R r L'∧Sat w' (H1a β β' L0 L') (Ge8 L L0 L')∧Step w β L w' (H1a β β' L0 L') (Ge8 L L0 L')∧V w' (H1a β β' L0 L') (Ge8 L L0 L') r v:=by
 let β0:Gu:=⟨fun id=>if inL L0 id=true then β.at_ id else none,fun b i=>b < w.heap.size∧¬ Hv w β L b i∧∀ id,inL L0 id=true→β.at_ id≠some b⟩
 have a0:∀ id,inL L0 id=true→∃ o,lk L0 id=some o∧lk L id=some o:=fun id h=>by
  obtain⟨o,ho⟩:=Kj h
  exact⟨o,ho,a1 id o ho⟩
 have b0:∀ id b,β0.at_ id=some b→inL L0 id=true∧β.at_ id=some b:=fun id b h=>by
  by_cases hi:inL L0 id=true
  ·exact⟨hi,by simpa [β0,hi] using h⟩
  ·simp [β0,hi] at h
 have isL:∀ id,inL L0 id=true→(lk L id).isSome=true:=fun id h=>by
  obtain⟨o,_,ho⟩:=a0 id h
  rw [ho]; rfl
 have hS:∀ b i,Hv w β L b i→Hv w β0 L0 b i:=fun b i hs=>⟨hs.lt,fun h=>h.2.1 hs,fun id o ho hb=>hs.kept id o (a1 id o ho) (b0 id b hb).2⟩
 have hid:∀ id o,lk L0 id=some o→lk L id=some o∧β0.at_ id=β.at_ id:=fun id o ho=>⟨a1 id o ho,by
  have:inL L0 id=true:=by unfold inL; rw [ho]; rfl
  simp [β0,this]⟩
 have sat0:Sat w β0 L0:=⟨fun b i h=>h.1,fun id b h1 h2=>h8.bnd id b (isL id h1) (b0 id b h2).2,fun id b j h1 h2 h3=>h3.2.2 id h1 (b0 id b h2).2,
  fun id id' b h1 h2 h3 h4=>h8.inj id id' b (isL id h1) (isL id' h2) (b0 id b h3).2 (b0 id' b h4).2,
  fun id o ho=>by
   have:=(h8.obj id o (a1 id o ho)).down hS hid (b1 id o ho)
   rw [(hid id o ho).2]; exact this⟩
 refine(hc w β0 vs sat0 hl (fun j u v hu a8=>(hv j u v hu a8).1.down hS hid (hv j u v hu a8).2)).mono fun e w' h=>?_
 obtain⟨v,r,β',L',he,sat',st,b2,hR⟩:=h
 have b3:=a9 r L' hR
 have a4:∀ id,lk (Ge8 L L0 L') id=if inL L' id=true then lk L' id else if inL L0 id=true then none else lk L id:=fun id=>by
  unfold Ge8; rw [Q2f,R5e]
 have a5:∀ id,(H1a β β' L0 L').at_ id=if inL L' id=true∨inL L0 id=true then β'.at_ id else β.at_ id:=fun id=>rfl
 have h9:∀ id o,lk (Ge8 L L0 L') id=some o→inL L' id=false→inL L0 id=false∧lk L id=some o∧(H1a β β' L0 L').at_ id=β.at_ id:=fun id o h1 h2=>by
  rw [a4,if_neg (by simp [h2])] at h1
  by_cases h3:inL L0 id=true
  ·rw [if_pos h3] at h1; cases h1
  ·rw [if_neg h3] at h1
   exact⟨by simpa using h3,h1,by rw [a5,if_neg (by simp [h2,h3])]⟩
 have h7:∀ id o,lk L id=some o→inL L0 id=false→lk (Ge8 L L0 L') id=some o∧(H1a β β' L0 L').at_ id=β.at_ id:=fun id o h1 h2=>by
  have h3:inL L' id=false:=by
   cases h3:inL L' id with
   | false=>rfl
   | true=>
    rcases b3 id h3 with h4 | h4
    ·rw [h2] at h4; cases h4
    ·rw [h1] at h4; cases h4
  exact⟨by rw [a4,if_neg (by simp [h3]),if_neg (by simp [h2])]; exact h1,by rw [a5,if_neg (by simp [h2,h3])]⟩
 have h6:∀ id o,lk L' id=some o→lk (Ge8 L L0 L') id=some o∧(H1a β β' L0 L').at_ id=β'.at_ id:=fun id o ho=>by
  have:inL L' id=true:=by unfold inL; rw [ho]; rfl
  exact⟨by rw [a4,if_pos this]; exact ho,by rw [a5,if_pos (.inl this)]⟩
 have a6:∀ b i,b < w.heap.size→(β'.hid b i ↔ β0.hid b i):=st.hid
 -- what is not hidden from the call is not hidden from the caller's own callers
 have nothid:∀ b i,¬ β'.hid b i→¬ β.hid b i:=fun b i hn hh=>by
  have hb:=h8.hid b i hh
  rw [a6 b i hb] at hn
  refine hn ⟨hb,fun hs=>hs.seen hh,fun id h1 h2=>h8.apart id b i (isL id h1) h2 hh⟩
 have farrest:∀ id o b,lk L id=some o→inL L0 id=false→β.at_ id=some b→b < w.heap.size∧(∀ id',inL L0 id'=true→β0.at_ id'≠some b):=fun id o b h1 h2 h3=>by
  refine⟨h8.bnd id b (by rw [h1]; rfl) h3,fun id' h4 h5=>?_⟩
  have:=h8.inj id id' b (by rw [h1]; rfl) (isL id' h4) h3 (b0 id' b h5).2
  subst this; rw [h2] at h4; cases h4
 have a3:∀ b i,Hv w' β' L' b i→Hv w' (H1a β β' L0 L') (Ge8 L L0 L') b i:=fun b i hs=>by
  refine⟨hs.lt,nothid b i hs.seen,fun id o h1 h2=>?_⟩
  cases h3:inL L' id with
  | true=>
   obtain⟨o',h0⟩:=Kj h3
   obtain⟨e1,e2⟩:=h6 id o' h0
   rw [h1] at e1; cases e1
   exact hs.kept id _ h0 (e2 ▸ h2)
  | false=>
   obtain⟨r1,r2,r3⟩:=h9 id o h1 h3
   rw [r3] at h2
   obtain⟨f1,f2⟩:=farrest id o b r2 r1 h2
   have hn:=hs.seen
   rw [a6 b i f1] at hn
   have b4:Hv w β L b i:=Classical.byContradiction fun b5=>hn ⟨f1,b5,fun id' h4 h5=>f2 id' h4 (by simp [β0,h4,h5])⟩
   exact b4.kept id o r2 h2
 have step:Step w β L w' (H1a β β' L0 L') (Ge8 L L0 L'):=by
  refine⟨st.os,st.tape,st.output,st.size,fun _ _ _=>Iff.rfl,fun b i hs=>?_,fun b hb hf=>?_,fun id t cs h1=>?_,fun id t cs h1=>?_,fun id m n es h1=>?_,fun id t k ver xs h1=>?_,fun id t k ver hw h1=>?_⟩
  ·obtain⟨s1,s2⟩:=st.stab b i (hS b i hs)
   exact⟨a3 b i s1,s2⟩
  ·obtain⟨f1,f2⟩:=st.far b hb (fun id h1 h2=>hf id (isL id h1) (b0 id b h2).2)
   refine⟨f1,fun id h1 h2=>?_⟩
   obtain⟨o,ho⟩:=Kj h1
   cases h3:inL L' id with
   | true=>
    obtain⟨o',h0⟩:=Kj h3
    exact f2 id h3 ((h6 id o' h0).2 ▸ h2)
   | false=>
    obtain⟨r1,r2,r3⟩:=h9 id o ho h3
    exact hf id (by rw [r2]; rfl) (r3 ▸ h2)
  ·cases h2:inL L0 id with
   | true=>
    obtain⟨o,ho,h0⟩:=a0 id h2
    rw [h1] at h0; cases h0
    obtain⟨s1,cs',s2⟩:=st.box id t cs ho
    exact⟨(h6 id _ s2).2.trans (s1.trans (hid id _ ho).2),cs',(h6 id _ s2).1⟩
   | false=>exact⟨(h7 id _ h1 h2).2,cs,(h7 id _ h1 h2).1⟩
  ·cases h2:inL L0 id with
   | true=>
    obtain⟨o,ho,h0⟩:=a0 id h2
    rw [h1] at h0; cases h0
    obtain⟨s1,cs',s2⟩:=st.map id t cs ho
    exact⟨(h6 id _ s2).2.trans (s1.trans (hid id _ ho).2),cs',(h6 id _ s2).1⟩
   | false=>exact⟨(h7 id _ h1 h2).2,cs,(h7 id _ h1 h2).1⟩
  ·cases h2:inL L0 id with
   | true=>
    obtain⟨o,ho,h0⟩:=a0 id h2
    rw [h1] at h0; cases h0
    obtain⟨s1,n',cs',s2⟩:=st.iter id m n es ho
    exact⟨(h6 id _ s2).2.trans (s1.trans (hid id _ ho).2),n',cs',(h6 id _ s2).1⟩
   | false=>exact⟨(h7 id _ h1 h2).2,n,es,(h7 id _ h1 h2).1⟩
  ·cases h2:inL L0 id with
   | true=>
    obtain⟨o,ho,h0⟩:=a0 id h2
    rw [h1] at h0; cases h0
    obtain⟨ver',xs',s1,s2,s3⟩:=st.vec id t k ver xs ho
    refine⟨ver',xs',(h6 id _ s1).1,s2,fun e=>?_⟩
    obtain⟨q1,q2,q3⟩:=s3 e
    exact⟨q1,(h6 id _ s1).2.trans (q2.trans (hid id _ ho).2),fun b hb=>q3 b ((hid id _ ho).2.trans hb)⟩
   | false=>
    refine⟨ver,xs,(h7 id _ h1 h2).1,M1,fun _=>⟨rfl,(h7 id _ h1 h2).2,fun b hb=>?_⟩⟩
    obtain⟨f1,f2⟩:=farrest id _ b h1 h2 hb
    exact G03 (st.far b f1 (fun id' h4=>f2 id' h4)).1
  ·cases h2:inL L0 id with
   | true=>
    obtain⟨o,ho,h0⟩:=a0 id h2
    rw [h1] at h0; cases h0
    obtain⟨ver',b6,s1,s2,s3⟩:=st.spare id t k ver hw ho
    refine⟨ver',b6,(h6 id _ s1).1,s2,fun e=>?_⟩
    obtain⟨q1,q2,q3⟩:=s3 e
    exact⟨q1,(h6 id _ s1).2.trans (q2.trans (hid id _ ho).2),fun b hb=>q3 b ((hid id _ ho).2.trans hb)⟩
   | false=>
    refine⟨ver,hw,(h7 id _ h1 h2).1,M1,fun _=>⟨rfl,(h7 id _ h1 h2).2,fun b hb=>?_⟩⟩
    obtain⟨f1,f2⟩:=farrest id _ b h1 h2 hb
    exact(st.far b f1 (fun id' h4=>f2 id' h4)).1
 refine⟨v,r,β',L',he,hR,?_,step,b2.up a3 h6⟩
 refine⟨fun b i h=>Km (h8.hid b i h) st.size,fun id b h1 h2=>?_,fun id b j h1 h2=>?_,fun id id' b h1 h2 h3 h4=>?_,fun id o ho=>?_⟩
 ·obtain⟨o,ho⟩:=Kj h1
  cases h3:inL L' id with
  | true=>
   obtain⟨o',h0⟩:=Kj h3
   exact sat'.bnd id b h3 ((h6 id o' h0).2 ▸ h2)
  | false=>
   obtain⟨r1,r2,r3⟩:=h9 id o ho h3
   exact Km (h8.bnd id b (by rw [r2]; rfl) (r3 ▸ h2)) st.size
 ·obtain⟨o,ho⟩:=Kj h1
  cases h3:inL L' id with
  | true=>
   obtain⟨o',h0⟩:=Kj h3
   exact nothid b j (sat'.apart id b j h3 ((h6 id o' h0).2 ▸ h2))
  | false=>
   obtain⟨r1,r2,r3⟩:=h9 id o ho h3
   exact h8.apart id b j (by rw [r2]; rfl) (r3 ▸ h2)
 ·have key:∀ id id',inL L' id=true→(H1a β β' L0 L').at_ id=some b→(lk (Ge8 L L0 L') id').isSome=true→inL L' id'=false→(H1a β β' L0 L').at_ id'=some b→False:=by
   intro id id' h3 h2 b7 b8 b9
   obtain⟨o',h0⟩:=Kj h3
   obtain⟨o2,a2⟩:=Kj b7
   obtain⟨r1,r2,r3⟩:=h9 id' o2 a2 b8
   obtain⟨f1,f2⟩:=farrest id' o2 b r2 r1 (r3 ▸ b9)
   exact(st.far b f1 (fun i h=>f2 i h)).2 id h3 ((h6 id o' h0).2 ▸ h2)
  cases e1:inL L' id with
  | true=>
   cases e2:inL L' id' with
   | true=>
    obtain⟨o1,a7⟩:=Kj e1
    obtain⟨o2,a2⟩:=Kj e2
    exact sat'.inj id id' b e1 e2 ((h6 id o1 a7).2 ▸ h3) ((h6 id' o2 a2).2 ▸ h4)
   | false=>exact(key id id' e1 h3 h2 e2 h4).elim
  | false=>
   cases e2:inL L' id' with
   | true=>exact(key id' id e2 h4 h1 e1 h3).elim
   | false=>
    obtain⟨o1,a7⟩:=Kj h1
    obtain⟨o2,a2⟩:=Kj h2
    obtain⟨_,r2,r3⟩:=h9 id o1 a7 e1
    obtain⟨_,q2,q3⟩:=h9 id' o2 a2 e2
    exact h8.inj id id' b (by rw [r2]; rfl) (by rw [q2]; rfl) (r3 ▸ h3) (q3 ▸ h4)
 ·cases h3:inL L' id with
  | true=>
   obtain⟨o',h0⟩:=Kj h3
   obtain⟨e1,e2⟩:=h6 id o' h0
   rw [ho] at e1; cases e1
   rw [e2]
   exact(sat'.obj id _ h0).up a3 h6
  | false=>
   obtain⟨r1,r2,r3⟩:=h9 id o ho h3
   rw [r3]
   exact(h8.obj id o r2).step step (fun b hb=>by
    obtain⟨f1,f2⟩:=farrest id o b r2 r1 hb
    exact(st.far b f1 (fun id' h4=>f2 id' h4)).1)

theorem G77 {k:Nat}:∀ {xs:List AV},(∀ x∈xs,x.cells.length=k)→∀ {m f:Nat} {y:AV},xs[m]? = some y→f < k→(flat xs)[m*k+f]? = y.cells[f]?
 | [],_,m,f,y,h,_=>by simp at h
 | x::r,hk,m,f,y,h,hf=>by
  have hx:=hk x (by simp)
  cases m with
  | zero=>
   simp at h; subst h
   rw [flat,Nat.zero_mul,Nat.zero_add,M3 (by omega)]
  | succ m=>
   simp at h
   rw [flat,show (m+1)*k+f=k+(m*k+f) by rw [Nat.add_mul]; omega,M2 (by omega),hx,show k+(m*k+f) - k=m*k+f by omega]
   exact G77 (fun y hy=>hk y (by simp [hy])) h hf
theorem Qbd {k:Nat}:∀ {xs:List AV},(∀ x∈xs,x.cells.length=k)→∀ {m:Nat} {z:AV},m < xs.length→z.cells.length=k→flat (xs.set m z)=(flat xs).take (m*k)++z.cells++(flat xs).drop (m*k+k)
 | [],_,m,z,h,_=>by simp at h
 | x::r,hk,m,z,h,hz=>by
  have hx:=hk x (by simp)
  cases m with
  | zero=>simp [flat,hx]
  | succ m=>
   have ih:=Qbd (xs:=r) (fun y hy=>hk y (by simp [hy])) (m:=m) (z:=z) (by simpa using h) hz
   have e1:(m+1)*k=x.cells.length+m*k:=by rw [hx,Nat.add_mul]; omega
   rw [List.set_cons_succ,flat,ih,flat,e1,List.take_length_add_append,Nat.add_assoc,List.drop_length_add_append]
   simp [List.append_assoc]

section moves
variable {w w':World} {β:Gu} {L:Loc} {i t k ver1:Nat} {xs':List AV}
theorem Qu {ob':Option Nat} (h0:Sat w β L)
  (hold:lk L i=none∨∃ ver xs,lk L i=some (.vec t k ver xs)∧ver≤ver1∧(ver1=ver→xs'.length=xs.length∧ob'=β.at_ i∧∀ b,β.at_ i=some b→w'.shape? b=w.shape? b))
  (a4:w'.os=w.os) (a5:w'.tape=w.tape) (a2:w'.output=w.output∧w.drawn≤w'.drawn) (h9:w.heap.size≤w'.heap.size)
  (a0:∀ b,b < w.heap.size→(inL L i=true→β.at_ i≠some b)→w'.heap[b]? = w.heap[b]?)
  (a6:ob'=none∨(inL L i=true∧ob'=β.at_ i)∨∃ b,ob'=some b∧w.heap.size≤b∧b < w'.heap.size) :
  Step w β L w' (upP β i ob') ((i,.vec t k ver1 xs')::L) ∧
  (G95 w' (upP β i ob') ((i,.vec t k ver1 xs')::L) ob' (.vec t k ver1 xs')→Sat w' (upP β i ob') ((i,.vec t k ver1 xs')::L)):=by
 have a1:∀ id b,(lk L id).isSome=true→β.at_ id=some b→i≠id→w'.heap[b]? = w.heap[b]? := by
  intro id b h1 h2 a7
  refine a0 b (h0.bnd id b h1 h2) (fun h3 h4=>a7 ?_)
  exact h0.inj i id b h3 h1 h4 h2
 have h7:∀ id,i≠id→(upP β i ob').at_ id=β.at_ id:=fun id e=>by simp [upP,Ne.symm e]
 have h8:(upP β i ob').at_ i=ob':=by simp [upP]
 have fresh:∀ b,ob'=some b→(inL L i=true∧β.at_ i=some b)∨(w.heap.size≤b∧b < w'.heap.size):=by
  intro b hb
  rcases a6 with h | ⟨h1,h2⟩ | ⟨b',h1,h2,h3⟩
  ·rw [h] at hb; cases hb
  ·exact .inl ⟨h1,by rw [← h2,hb]⟩
  ·rw [h1] at hb; cases hb; exact .inr ⟨h2,h3⟩
 have stabne:∀ b j,Hv w β L b j→inL L i=true→β.at_ i≠some b:=by
  intro b j hs a8 hb
  obtain⟨o,ho⟩:=Kj a8
  have hk:=hs.kept i o ho hb
  rcases hold with h | ⟨ver,xs,h,_⟩
  ·rw [h] at ho; cases ho
  ·rw [h] at ho; cases ho; exact hk
 have st:Step w β L w' (upP β i ob') ((i,.vec t k ver1 xs')::L):=by
  refine⟨a4,a5,a2,h9,fun _ _ _=>Iff.rfl,fun b j hs=>⟨⟨Km hs.lt h9,hs.seen,fun id o hid hb=>?_⟩,Jh (w:=w) (a0 b hs.lt (stabne b j hs))⟩,fun b hb hf=>⟨a0 b hb (fun h=>hf i h),fun id hid e=>?_⟩,fun id t' cs hid=>?_,fun id t' cs hid=>?_,fun id t' n cs hid=>?_,fun id t' k' vr zs hid=>?_,fun id t' k' vr hw hid=>?_⟩
  ·rw [Gd] at hid
   by_cases e:i=id
   ·subst e
    rw [h8] at hb
    rcases fresh b hb with ⟨h1,h2⟩ | ⟨h1,_⟩
    ·exact absurd h2 (stabne b j hs h1)
    ·have:=hs.lt; omega
   ·rw [if_neg e] at hid; rw [h7 id e] at hb; exact hs.kept id o hid hb
  ·rw [Gd] at hid
   by_cases e':i=id
   ·subst e'
    rw [h8] at e
    rcases fresh b e with ⟨h1,h2⟩ | ⟨h1,_⟩
    ·exact hf i h1 h2
    ·omega
   ·rw [if_neg e'] at hid; rw [h7 id e'] at e; exact hf id hid e
  ·have e:i≠id:=fun e=>by subst e; rcases hold with h | ⟨_,_,h,_⟩ <;> rw [h] at hid <;> cases hid
   exact⟨h7 id e,cs,by rw [Gd,if_neg e]; exact hid⟩
  ·have e:i≠id:=fun e=>by subst e; rcases hold with h | ⟨_,_,h,_⟩ <;> rw [h] at hid <;> cases hid
   exact⟨h7 id e,cs,by rw [Gd,if_neg e]; exact hid⟩
  ·have e:i≠id:=fun e=>by subst e; rcases hold with h | ⟨_,_,h,_⟩ <;> rw [h] at hid <;> cases hid
   exact⟨h7 id e,n,cs,by rw [Gd,if_neg e]; exact hid⟩
  ·rw [Gd]
   by_cases e:i=id
   ·subst e
    rcases hold with h | ⟨ver,xs,h,h1,h2⟩
    ·rw [h] at hid; cases hid
    ·rw [h] at hid; cases hid
     refine⟨ver1,xs',if_pos rfl,h1,fun e=>?_⟩
     obtain⟨q1,q2,q3⟩:=h2 e
     exact⟨q1,h8.trans q2,q3⟩
   ·exact⟨vr,zs,by rw [if_neg e]; exact hid,M1,fun _=>⟨rfl,h7 id e,fun b hb=>G03 (a1 id b (by rw [hid]; rfl) hb e)⟩⟩
  ·have e:i≠id:=fun e=>by subst e; rcases hold with h | ⟨_,_,h,_⟩ <;> rw [h] at hid <;> cases hid
   exact⟨vr,hw,by rw [Gd,if_neg e]; exact hid,M1,fun _=>⟨rfl,h7 id e,fun b hb=>a1 id b (by rw [hid]; rfl) hb e⟩⟩
 refine⟨st,fun a3=>⟨fun b j h=>Km (h0.hid b j h) h9,fun id b hid hb=>?_,fun id b j hid hb hh=>?_,fun id id' b h1 h2 h3 h4=>?_,fun id o hid=>?_⟩⟩
 ·rw [Gd] at hid
  by_cases e:i=id
  ·subst e
   rw [h8] at hb
   rcases fresh b hb with ⟨h1,h2⟩ | ⟨_,h2⟩
   ·exact Km (h0.bnd i b h1 h2) h9
   ·exact h2
  ·rw [if_neg e] at hid; rw [h7 id e] at hb; exact Km (h0.bnd id b hid hb) h9
 ·rw [Gd] at hid
  by_cases e:i=id
  ·subst e
   rw [h8] at hb
   rcases fresh b hb with ⟨h1,h2⟩ | ⟨h1,_⟩
   ·exact h0.apart i b j h1 h2 hh
   ·have:=h0.hid b j hh; omega
  ·rw [if_neg e] at hid; rw [h7 id e] at hb; exact h0.apart id b j hid hb hh
 ·have key:∀ id,i≠id→(lk ((i,Je.vec t k ver1 xs')::L) id).isSome=true→(upP β i ob').at_ id=some b→ob'=some b→False:=by
   intro id e h1 h3 hb
   rw [Gd,if_neg e] at h1
   rw [h7 id e] at h3
   rcases fresh b hb with ⟨h5,h6⟩ | ⟨h5,_⟩
   ·exact e (h0.inj i id b h5 h1 h6 h3)
   ·have:=h0.bnd id _ h1 h3; omega
  by_cases e:i=id
  ·by_cases e':i=id'
   ·rw [← e,e']
   ·subst e; rw [h8] at h3; exact(key id' e' h2 h4 h3).elim
  ·by_cases e':i=id'
   ·subst e'; rw [h8] at h4; exact(key id e h1 h3 h4).elim
   ·rw [Gd,if_neg e] at h1
    rw [Gd,if_neg e'] at h2
    rw [h7 id e] at h3
    rw [h7 id' e'] at h4
    exact h0.inj id id' b h1 h2 h3 h4
 ·rw [Gd] at hid
  by_cases e:i=id
  ·subst e
   rw [if_pos rfl] at hid; cases hid
   rw [h8]; exact a3
  ·rw [if_neg e] at hid
   rw [h7 id e]
   exact(h0.obj id o hid).step st (fun b hb=>a1 id b (by rw [hid]; rfl) hb e)

theorem G37 {n ver:Nat} {xs:List AV} {x:Value} (h0:Sat w β L) (hi:lk L i=some (.vec t k ver xs)) (hv:V w β L (.vec i ver k n) x) :
  n=xs.length∧(∀ y∈xs,y.cells.length=k)∧((x=.slice none 0 0∧xs=[]∧β.at_ i=none) ∨
   ∃ b cap vs,x=.slice (some ⟨b,0,none⟩) xs.length cap∧β.at_ i=some b∧xs.length≤cap∧cap≤maxLen∧w.heap[b]? = some (.cells vs t (0,0))∧vs.size=cap*k ∧
    ∀ (j:Nat) u v,(flat xs)[j]? = some u→vs[j]? = some v→D w (Hv w β L) u v):=by
 have a0:=h0.obj i _ hi
 cases hv with
 | data h=>cases h
 | vec hp a1=>
  obtain⟨t',ver',xs',h1,h2,h3⟩:=hp
  rw [hi] at h1; cases h1
  obtain⟨rfl,h4⟩:=h3 rfl
  obtain⟨o1,o2⟩:=a0
  refine⟨rfl,o1,?_⟩
  rcases h4 with ⟨rfl,h5,h6⟩ | ⟨b,cap,rfl,h6,h7,h8,h9⟩
  ·exact .inl ⟨rfl,Kn h5,h6⟩
  ·right
   rcases o2 with ⟨o3,_⟩ | ⟨b',o3,vs,o4,o5,o6⟩
   ·rw [h6] at o3; cases o3
   ·rw [h6] at o3; cases o3
    have hs:vs.size=cap*k:=by
     have:=h9
     simp [World.shape?,o4] at this
     exact this
    exact⟨b,cap,vs,rfl,h6,h7,h8,o4,hs,o6⟩
end moves

section ops
variable {P:Program} {N:Cfg} {o:Oper} {l:Fr} {L L':Loc} {u:AV} {α:Type}

theorem Q77 (i E k:Nat) {x:Operand} (ho:o.op=.assign x) (hx:ev l x=.sc (.slice none 0 0)) (hi:lk L i=none):Gz P o l L (Is (.vec i 0 k 0) ((i,.vec E k 0 [])::L)):=by
 intro a w β K Q h0 hf hK
 have hv:=hf.ev x
 rw [hx] at hv
 have hr:(execOp a.eval o).run P w=.ok (.value (.slice none 0 0)) w:=by simp [execOp,ho,hv.inv_sc]
 unfold Oper.wp
 rw [hr]
 obtain⟨st,sat⟩:=Qu (w':=w) (t:=E) (k:=k) (ver1:=0) (xs':=[]) (ob':=none) h0 (.inl hi) rfl rfl ⟨rfl,M1⟩ (M1) (fun _ _ _=>rfl) (.inl rfl)
 exact hK _ _ _ w _ ⟨rfl,rfl⟩ (sat ⟨by simp,.inl ⟨rfl,rfl⟩⟩) st (.vec ⟨E,0,[],by rw [Gd,if_pos rfl],M1,fun _=>⟨rfl,.inl ⟨rfl,rfl,by simp [upP]⟩⟩⟩ rfl)

theorem Rb7 {s x:Operand} {T E k by_ i ver ver1 n:Nat} {kx:Nat} {xs ys:List AV} (ho:o.op=.call { callee:=.builtin .append,args:=#[s,x],argTypes:=#[T,T] }) (hs:ev l s=.vec i ver k n) (hi:lk L i=some (.vec E k ver xs)) (hx:Q0 (ev l x)=some (kx,ys))
  (hT:sliceB P T E k=true) (hE:Rw P E k by_=true) (hb:(xs.length+ys.length)*by_≤140737488355328) (b8:xs.length+ys.length≤maxLen) (a9:∀ y∈ys,y.flatOk=true) (hk:kx=k∨ys=[]) (d6:ver < ver1) :
  Gz P o l L (Is (.vec i ver1 k (xs++ys).length) ((i,.vec E k ver1 (xs++ys))::L)):=by
 intro a w β K Q a0 hf hK
 have hv:=hf.ev s
 rw [hs] at hv
 obtain⟨rfl,b2,b3⟩:=G37 a0 hi hv
 generalize c2:a.eval s=vs at hv b3
 have a1:=(hf.ev x).Q0 hx
 obtain⟨ao,cap,b4,_⟩:=a1.len
 rw [b4] at a1
 obtain⟨_,c3,c4,news,c5,a2,b5⟩:=a1.vals
 obtain⟨inf,z,e1,e2,e3,e4,e5,e6⟩:=Rw.out hE
 have a3:∀ y∈ys,y.cells.length=k:=by
  rcases hk with rfl | rfl
  ·exact c3
  ·simp
 have b9:∀ u∈news,u.oneCell'=true:=by
  intro u hu
  obtain⟨j,hj,e⟩:=List.mem_iff_getElem.1 hu
  have b6:j < (flat ys).length:=by omega
  obtain⟨x',h9,a4⟩:=b5 j (flat ys)[j] (by simp [b6])
  have:u=x':=by
   have:news[j]? = some u:=by rw [← e]; simp [hj]
   rw [this] at h9; exact Ky h9
  subst this
  have c6:((flat ys)[j]).isCell=true:=H4a a9 (List.getElem_mem b6)
  exact(V.data (L:=L) (β:=β) a4).cell c6
 have c7:(flat ys).length=ys.length*k:=J0 a3
 have c8:(flat xs).length=xs.length*k:=J0 b2
 -- the row aQ the kit knows it
 obtain⟨vals,a5,c9,b7⟩:∃ vals:List Value,w.ownsRow 0 E k vs xs.length vals∧(∀ (j:Nat) u v,(flat xs)[j]? = some u→vals[j]? = some v→D w (Hv w β L) u v)∧vs.ownBlock=β.at_ i:=by
  rcases b3 with ⟨rfl,rfl,h3⟩ | ⟨b,cap',cur,rfl,h2,h3,h4,h5,h6,h7⟩
  ·exact⟨[],⟨by simp,.inl ⟨rfl,rfl⟩⟩,fun j u v hu=>by simp [flat] at hu,by rw [h3]; rfl⟩
  ·refine⟨cur.toList.take (xs.length*k),⟨?_,.inr ⟨b,cap',cur,rfl,Nat.zero_le _,h5,h3,h4,h6,rfl⟩⟩,fun j u v hu hv=>h7 j u v hu ?_,by rw [h2]; rfl⟩
   ·rw [List.length_take]; refine Nat.min_eq_left ?_; exact Nat.le_trans (Nat.mul_le_mul_right _ h3) (Nat.le_of_eq (by simpa using h6.symm))
   ·have hj:=(Kw hv).1
    rw [M6,if_pos (by rw [List.length_take] at hj; omega)] at hv
    simpa using hv
 obtain⟨v',w',hr,h8,d0,d1,c0,d2,a6,a7⟩:=H13 (P:=P) w T o.type E inf z k (sliceB.out hT).1 e1 e4 e2 e5 e6 vs xs.length vals a5 ao ys.length cap news (by rw [c5,c7]) (fun ad j u h h'=>a2 ad j u h h') c4 b9 b8 (by rw [e3]; exact hb)
 have c1:(execOp a.eval o).run P w=.ok (.value v') w':=by
  simp [execOp,ho,resolve,invoke,builtin,c2,b4,hr]
 unfold Oper.wp
 rw [c1]
 have d3:vals.length=xs.length*k:=a5.1
 have b0:=ownsRow_form h8
 have vlt:∀ b,v'.ownBlock=some b→b < w'.heap.size:=by
  intro b hb
  rcases b0 with ⟨_,_,h0⟩ | ⟨b',cap',cur,_,d4,_,_,hg,_⟩
  ·rw [h0] at hb; cases hb
  ·rw [d4] at hb; cases hb
   exact(Kk hg).1
 obtain⟨st,sat⟩:=Qu (w':=w') (t:=E) (k:=k) (ver1:=ver1) (xs':=xs++ys) (ob':=v'.ownBlock) a0 (.inr ⟨ver,xs,hi,by omega,fun e=>by omega⟩) d0 d1 c0 d2
  (fun b hb d5=>a6 b hb (fun e=>d5 (by rw [inL,hi]; rfl) (b7 ▸ e)))
  (by
   rcases a7 with h | ⟨h,h',_⟩
   ·exact .inr (.inl ⟨by rw [inL,hi]; rfl,h.trans b7⟩)
   ·exact .inr (.inr ⟨_,h,M1,h'⟩))
 have a8:∀ y∈xs++ys,y.cells.length=k:=fun y hy=>by
  rcases Md.1 hy with h | h
  ·exact b2 y h
  ·exact a3 y h
 have b1:∀ (j:Nat) u v,(flat (xs++ys))[j]? = some u→(vals++news)[j]? = some v→D w' (Hv w' (upP β i v'.ownBlock) ((i,.vec E k ver1 (xs++ys))::L)) u v:=by
  intro j u v hu hv
  rw [G16] at hu
  rcases Kq j (flat xs).length with hj | hj
  ·rw [M3 hj] at hu
   rw [M3 (by omega)] at hv
   exact(c9 j u v hu hv).mono st.stab
  ·rw [M2 hj] at hu
   rw [M2 (by omega)] at hv
   obtain⟨x',h9,a4⟩:=b5 (j - (flat xs).length) u hu
   rw [c8,← d3] at h9
   rw [hv] at h9; cases h9
   exact a4.mono st.stab
 refine hK _ _ v' w' _ ⟨rfl,rfl⟩ (sat ⟨a8,?_⟩) st (.vec ⟨E,ver1,xs++ys,by rw [Gd,if_pos rfl],M1,fun _=>⟨rfl,?_⟩⟩ ?_)
 ·rcases h8.2 with ⟨h1,h2⟩ | ⟨g,cap',cur,h1,_,h3,h4,h5,h6,h7⟩
  ·refine .inl ⟨by rw [h1]; rfl,Kn (by rw [M8]; exact h2)⟩
  ·refine .inr ⟨g,by rw [h1]; rfl,cur,h3,?_,fun j u v hu hv=>b1 j u v hu ?_⟩
   ·rw [M8,h6]; exact Nat.mul_le_mul_right _ h4
   ·have hj:j < (flat (xs++ys)).length:=(Kw hu).1
    rw [J0 a8,M8] at hj
    rw [← h7,M6,if_pos hj]
    simpa using hv
 ·rcases h8.2 with ⟨h1,h2⟩ | ⟨g,cap',cur,h1,_,h3,h4,h5,h6,h7⟩
  ·exact .inl ⟨h1,by rw [M8]; exact h2,by simp [upP,h1,Value.ownBlock]⟩
  ·exact .inr ⟨g,cap',by rw [M8]; exact h1,by simp [upP,h1,Value.ownBlock],by rw [M8]; exact h4,h5,by simp [World.shape?,h3,h6]⟩
 ·rcases h8.2 with ⟨h1,_⟩ | ⟨g,cap',cur,h1,_⟩ <;> rw [h1] <;> rfl

theorem R4a {x:Operand} {T E k k' i ver n:Nat} (hT:sliceB P T E k'=true) (ho:o.op=.call { callee:=.builtin .len,args:=#[x],argTypes:=#[T] }) (hx:ev l x=.vec i ver k n) {xs:List AV} (hi:lk L i=some (.vec E k ver xs)):Gz P o l L (Is (I64 (n:Int)) L):=
 Hj fun a w β h0 hf=>by
  have hv:=hf.ev x
  rw [hx] at hv
  obtain⟨rfl,_,h⟩:=G37 h0 hi hv
  refine⟨.int .i64 xs.length,?_,.sc⟩
  rcases h with ⟨h1,h2,_⟩ | ⟨b,cap,vs,h1,_⟩
  ·subst h2
   simp [execOp,ho,resolve,invoke,builtin,Builtin.len_,underlying,(sliceB.out hT).1,h1,goInt]
  ·simp [execOp,ho,resolve,invoke,builtin,Builtin.len_,underlying,(sliceB.out hT).1,h1,goInt]

theorem Y6f {x ix:Operand} {T E k i ver n m:Nat} {kd:IntKind} {z:Int} {xs:List AV} (ho:o.op=.indexAddr T x ix) (hx:ev l x=.vec i ver k n) (h4:ev l ix=.sc (.int kd z)) (hi:lk L i=some (.vec E k ver xs)) (hT:sliceB P T E k=true) (hm:m < xs.length) (hz:z=(m:Int)) :
  Gz P o l L (Is (.vptr i ver m 0) L):=
 Hj fun a w β h0 hf=>by
  subst hz
  have hv:=hf.ev x
  rw [hx] at hv
  have h2:=hf.ev ix
  rw [h4] at h2
  obtain⟨rfl,_,h⟩:=G37 h0 hi hv
  rcases h with ⟨h1,h3,_⟩ | ⟨b,cap,vs,h1,h3,_⟩
  ·subst h3; simp at hm
  ·have hr:=Jv (sliceB.out hT).2 w
   refine⟨.pointer (some ⟨b,m*k,none⟩),?_,.vptr ⟨E,k,ver,xs,hi,M1,fun _=>⟨b,h3,rfl⟩⟩ rfl⟩
   simp [execOp,ho,Instr.indexAt,h2.inv_sc,asIntOf,underlying,(sliceB.out hT).1,h1,hm,hr,Addr.add_lit]

theorem V.inv_vptr {w:World} {β:Gu} {i ver m f t k:Nat} {xs:List AV} {x:Value} (hi:lk L i=some (.vec t k ver xs)) (h:V w β L (.vptr i ver m f) x):∃ b,β.at_ i=some b∧x=.pointer (some ⟨b,m*k+f,none⟩):=by
 cases h with
 | data h=>cases h
 | vptr hp _=>
  obtain⟨t',k',ver',xs',h1,_,h3⟩:=hp
  rw [hi] at h1; cases h1
  exact h3 rfl

theorem Gcb {w:World} {β:Gu} {i b t k ver:Nat} {xs:List AV} (h0:Sat w β L) (hi:lk L i=some (.vec t k ver xs)) (hb:β.at_ i=some b) :
  (∀ y∈xs,y.cells.length=k)∧∃ vs:Array Value,w.heap[b]? = some (.cells vs t (0,0))∧xs.length*k≤vs.size∧∀ (j:Nat) u v,(flat xs)[j]? = some u→vs[j]? = some v→D w (Hv w β L) u v:=by
 obtain⟨o1,o2⟩:=h0.obj i _ hi
 refine⟨o1,?_⟩
 rcases o2 with ⟨h,_⟩ | ⟨b',h,vs,h1,h2,h3⟩
 ·rw [hb] at h; cases h
 ·rw [hb] at h; cases h; exact⟨vs,h1,h2,h3⟩

theorem Y2b {x:Operand} {T i ver m f t k:Nat} {xs:List AV} {y:AV} (hT:R9 P T=true) (ho:o.op=.load T x) (hx:ev l x=.vptr i ver m f) (hi:lk L i=some (.vec t k ver xs)) (hy:xs[m]? = some y) (hu:y.cells[f]? = some u) (h6:f < k):Gz P o l L (Is u L):=
 Hj fun a w β h5 hf=>by
  have hv:=hf.ev x
  rw [hx] at hv
  obtain⟨b,hb,he⟩:=hv.inv_vptr hi
  obtain⟨h1,vs,h2,h3,h4⟩:=Gcb h5 hi hb
  have hm:=(Kw hy).1
  have h0:m*k+f < vs.size:=by
   have:(m+1)*k≤xs.length*k:=Nat.mul_le_mul_right _ hm
   rw [Nat.add_mul] at this; omega
  refine⟨vs[m*k+f],?_,.data (h4 (m*k+f) u _ (by rw [G77 h1 hy h6]; exact hu) (by simp [h0]))⟩
  have:=G73 (P:=P) (T:=T) (b:=b) (o':=m*k+f) (v:=vs[m*k+f]) hT (w:=w) (by simp [World.cell?,h2,h0])
  simp [execOp,ho,he,this]

theorem Qd6 {x y:Operand} {T i ver m f t k kk:Nat} {xs ds:List AV} {e z:AV} (hT:Re P T kk=true) (ho:o.op=.store T x y) (hu:ev l y=u) (hx:ev l x=.vptr i ver m f) (hi:lk L i=some (.vec t k ver xs)) (he:xs[m]? = some e)
  (hc:u.flatOk=true) (hd:u.isData=true) (a3:Hbc f u.cells e.cells=some ds) (hz:z.cells=ds) (hk:u.cells.length=kk) (a1:Nat.blt 0 kk=true) :
  Gz P o l L (Is .junk ((i,.vec t k ver (xs.set m z))::L)):=by
 subst hu
 have h2:(ev l y).cells≠[]:=fun e=>by rw [e] at hk; subst hk; cases a1
 obtain⟨rfl,h7⟩:=J89 a3 h2
 rw [hk] at h7
 intro a w β K Q h3 hf hK
 have h1:=hf.ev x
 rw [hx] at h1
 obtain⟨b,hb,a4⟩:=h1.inv_vptr hi
 obtain⟨q1,vs,q2,q3,q4⟩:=Gcb h3 hi hb
 have hm:=(Kw he).1
 have b2:e.cells.length=k:=q1 e (Kz he)
 have a2:m*k+f+kk≤vs.size:=by
  have:(m+1)*k≤xs.length*k:=Nat.mul_le_mul_right _ hm
  rw [Nat.add_mul] at this; omega
 obtain⟨c1,c2,c3⟩:=(hf.ev y).cells hc
 have hr:=H27 (P:=P) (off:=m*k+f) hT (c1.trans hk) c3 q2 a2
 unfold Oper.wp
 have a5:(execOp a.eval o).run P w=.ok .skip (w.setRow b (vs.toList.take (m*k+f)++(a.eval y).cells.toList++vs.toList.drop (m*k+f+kk)).toArray):=by
  simp [execOp,ho,a4,hr]
 rw [a5]
 have h8:=setRow_heap w b vs (vs.toList.take (m*k+f)++(a.eval y).cells.toList++vs.toList.drop (m*k+f+kk)).toArray t (0,0) q2
 have h4:(vs.toList.take (m*k+f)++(a.eval y).cells.toList++vs.toList.drop (m*k+f+kk)).toArray.size=vs.size:=by
  simp [c1]; omega
 have h5:z.cells.length=k:=by
  rw [hz]; simp [hk]; omega
 obtain⟨st,sat⟩:=Qu (w':=w.setRow b (vs.toList.take (m*k+f)++(a.eval y).cells.toList++vs.toList.drop (m*k+f+kk)).toArray) (t:=t) (k:=k) (ver1:=ver) (xs':=xs.set m z) (ob':=β.at_ i) h3
  (.inr ⟨ver,xs,hi,M1,fun _=>⟨by simp,rfl,fun b' h9=>by
   rw [hb] at h9; cases h9
   rw [World.shape?,h8,World.shape?,q2]; simp only [h4]⟩⟩) rfl rfl ⟨rfl,M1⟩ (by simp)
  (fun b' _ h2=>setRow_other w b b' _ (fun e=>h2 (by rw [inL,hi]; rfl) (by rw [hb,e])))
  (.inr (.inl ⟨by rw [inL,hi]; rfl,rfl⟩))
 have a6:∀ y∈xs.set m z,y.cells.length=k:=fun y hy=>by
  rcases List.mem_or_eq_of_mem_set hy with h | h
  ·exact q1 y h
  ·rw [h]; exact h5
 refine hK _ _ _ _ _ ⟨rfl,rfl⟩ (sat ⟨a6,.inr ⟨b,hb,_,h8,by rw [h4]; simpa using q3,fun j u v hu hv=>?_⟩⟩) st .junk
 rw [Qbd q1 hm h5,hz] at hu
 have b3:(flat xs).length=xs.length*k:=J0 q1
 have b4:m*k+k≤xs.length*k:=by
  have:(m+1)*k≤xs.length*k:=Nat.mul_le_mul_right _ hm
  rwa [Nat.add_mul,Nat.one_mul] at this
 simp only [List.getElem?_toArray] at hv
 have old:∀ j',(flat xs)[j']? = some u→vs[j']? = some v→D _ _ u v:=fun j' a b=>(q4 j' u v a b).mono st.stab
 have h6:(e.cells.take f++(ev l y).cells++e.cells.drop (f+(ev l y).cells.length)).length=k:=by rw [← hz]; exact h5
 have h0:(a.eval y).cells.toList.length=kk:=by rw [Array.length_toList,c1,hk]
 rcases Kq j (m*k) with hj | hj
 ·rw [List.append_assoc,M3 (by simp; omega),M6,if_pos hj] at hu
  rw [List.append_assoc,M3 (by simp; omega),M6,if_pos (by omega)] at hv
  exact old j hu (by simpa using hv)
 rcases Kq j (m*k+k) with a7 | a7
 ·-- in the element
  rw [M3 (by rw [M8,h6]; simp; omega),M2 (by simp; omega)] at hu
  have a8:(List.take (m*k) (flat xs)).length=m*k:=by simp; omega
  rw [a8] at hu
  rcases Kq j (m*k+f) with a0 | a0
  ·rw [List.append_assoc,M3 (by simp; omega),M6,if_pos (by omega)] at hu
   rw [List.append_assoc,M3 (by simp; omega),M6,if_pos a0] at hv
   refine old j ?_ (by simpa using hv)
   rw [show j=m*k+(j - m*k) by omega,G77 q1 he (by omega)]; exact hu
  rcases Kq j (m*k+f+kk) with a9 | a9
  ·rw [M3 (by simp [hk]; omega),M2 (by simp; omega)] at hu
   rw [M3 (by rw [M8,h0]; simp; omega),M2 (by simp; omega)] at hv
   have l1:(List.take f e.cells).length=f:=by simp; omega
   have l2:(List.take (m*k+f) vs.toList).length=m*k+f:=by simp; omega
   rw [l1] at hu
   rw [l2] at hv
   rw [show j - m*k - f=j - (m*k+f) by omega] at hu
   have b0:u.isData=true:=by
    have b1:=Kz hu
    exact Jba (ok:=fun _=>false) hd u b1
   exact((c2 _ u v hu (by simpa using hv)).toD b0).mono st.stab
  ·rw [M2 (by simp [hk]; omega),M7] at hu
   rw [M2 (by rw [M8,h0]; simp; omega),M7] at hv
   have l1:(List.take f e.cells++(ev l y).cells).length=f+kk:=by simp [hk]; omega
   have l2:(List.take (m*k+f) vs.toList++(a.eval y).cells.toList).length=m*k+f+kk:=by rw [M8,h0]; simp; omega
   rw [l1,hk] at hu
   rw [l2] at hv
   refine old j ?_ ?_
   ·rw [show j=m*k+(j - m*k) by omega,G77 q1 he (by omega)]
    rw [show f+kk+(j - m*k - (f+kk))=j - m*k by omega] at hu; exact hu
   ·rw [show m*k+f+kk+(j - (m*k+f+kk))=j by omega] at hv; simpa using hv
 ·rw [M2 (by rw [M8,h6]; simp; omega),M7] at hu
  rw [M2 (by rw [M8,h0]; simp; omega),M7] at hv
  have l1:(List.take (m*k) (flat xs)++(e.cells.take f++(ev l y).cells++e.cells.drop (f+(ev l y).cells.length))).length=m*k+k:=by rw [M8,h6]; simp; omega
  have l2:(List.take (m*k+f) vs.toList++(a.eval y).cells.toList).length=m*k+f+kk:=by rw [M8,h0]; simp; omega
  rw [l1] at hu
  rw [l2] at hv
  refine old j ?_ ?_
  ·rw [show m*k+k+(j - (m*k+k))=j by omega] at hu; exact hu
  ·rw [show m*k+f+kk+(j - (m*k+f+kk))=j by omega] at hv; simpa using hv
end ops
end Go.Proofs.YtibhpogonkdiaaaGreat
