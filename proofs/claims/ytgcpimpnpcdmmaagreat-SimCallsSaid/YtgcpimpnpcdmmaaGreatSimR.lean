/-
 One move of a simulator at a time: The moves of a call lead from the state bf to the state af. The moves of a voyage. Playing moves with a simulator;
-/
import Derived.Test.YtgcpimpnpcdmmaaGreatMovA
import Derived.Test.YtgcpimpnpcdmmaaGreatSimEc
set_option maxRecDepth 100000
set_option linter.unusedVariables false
namespace Go.Proofs.YtgcpimpnpcdmmaaGreat
open Go.RowKit
theorem Z1e (a b:Slot):Z1f a b < 0 ↔ a.G3 < b.G3∨(a.G3=b.G3∧(a.Tier < b.Tier∨(a.Tier=b.Tier∧a.Half < b.Half))):=by
 unfold Z1f
 rw [Qa8,Qa8,Qa8,H35,J61,H35,J61,H35,J61]
 simp [orI]
theorem J51 (a b:G1):Ra4 a b < 0 ↔ a.Slot.Tier < b.Slot.Tier∨(a.Slot.Tier=b.Slot.Tier∧(a.Slot.G3 < b.Slot.G3∨(a.Slot.G3=b.Slot.G3∧a.Slot.Half < b.Slot.Half))):=by
 unfold Ra4
 rw [Qa8,Qa8,H35,J61,Z1e]
 simp only [orI,Int.lt_irrefl,and_false,or_false]
 omega
theorem Y20:Ya9 Ra4 where
 asym x y:=by rw [J51,J51]; omega
 ntrans x y z:=by rw [J51,J51,J51]; omega
theorem Qce:Ya9 J6b where
 asym x y:=by unfold J6b; rw [H35,H35]; omega
 ntrans x y z:=by unfold J6b; rw [H35,H35,H35]; omega
abbrev St3:=List G1×List Int×List Int
def Hc6 (st:St3):St:=⟨st.1,st.2.1,st.2.2⟩
def J2f (t:St):St3:=(t.l,t.o,t.a)
open Classical in
noncomputable def G20 (F:Nat) (s:Gh) (boxes:List Box):List Move→St3→Option St3
 | [],st=>some st
 | m::r,st=>if Can s boxes (Hc6 st) m then G20 F s boxes r (J2f (nxt (Hc6 st) m)) else none
theorem H76 {F:Nat} {s:Gh} {boxes:List Box} {m:Move} {r:List Move} {st st':St3}:G20 F s boxes (m::r) st=some st' ↔ Can s boxes (Hc6 st) m∧G20 F s boxes r (J2f (nxt (Hc6 st) m))=some st':=by
 rw [G20]
 by_cases h:Can s boxes (Hc6 st) m
 ·rw [if_pos h]; exact⟨fun g=>⟨h,g⟩,fun g=>g.2⟩
 ·rw [if_neg h]; exact⟨fun g=>(nomatch g),fun g=>(h g.1).elim⟩
theorem G2c {F:Nat} {s:Gh} {boxes:List Box}:∀ (a b:List Move) (st st1 st2:St3),G20 F s boxes a st=some st1→G20 F s boxes b st1=some st2→G20 F s boxes (a++b) st=some st2
 | [],b,st,st1,st2,h1,h2=>by
  cases h1
  exact h2
 | m::r,b,st,st1,st2,h1,h2=>by
  obtain⟨hc,h1⟩:=H76.1 h1
  rw [List.cons_append]
  exact H76.2 ⟨hc,G2c r b _ st1 st2 h1 h2⟩
theorem Jb2 {F:Nat} {s:Gh} {boxes:List Box} {α:Type} {f:α→Move} (I:List α→St3→Prop) {xs:List α} {st:St3} (h0:I [] st)
  (hs:∀ pre x post st,xs=pre++x::post→I pre st→Can s boxes (Hc6 st) (f x)∧I (pre++[x]) (J2f (nxt (Hc6 st) (f x)))):∃ st',G20 F s boxes (xs.map f) st=some st'∧I xs st':=by
 have key:∀ (post pre:List α) (st:St3),xs=pre++post→I pre st→∃ st',G20 F s boxes (post.map f) st=some st'∧I xs st':=by
  intro post
  induction post with
  | nil=>intro pre st e hi; rw [List.append_nil] at e; subst e; exact⟨st,rfl,hi⟩
  | cons x post ih=>
   intro pre st e hi
   obtain⟨e1,h1⟩:=hs pre x post st e hi
   obtain⟨st2,e2,h2⟩:=ih (pre++[x]) _ (by rw [e]; simp) h1
   exact⟨st2,by rw [List.map_cons]; exact H76.2 ⟨e1,e2⟩,h2⟩
 exact key xs [] st rfl h0
theorem Qb8 {k:Int} {l:List Int} (h:l.Nodup) (hk:k ∉ l):(H20 k l).Nodup:=by
 unfold H20
 refine List.nodup_append.2 ⟨h.sublist List.filter_sublist,List.nodup_cons.2 ⟨fun g=>hk (Mr.1 g).1,h.sublist List.filter_sublist⟩,fun a ha b hb e=>?_⟩
 have h1:=M1 (Mr.1 ha).2
 subst e
 rcases Mq.1 hb with rfl | hb
 ·omega
 ·have:=M1 (Mr.1 hb).2
  omega
theorem Z2d {s:Gh} {o:List Int} {k:Nat} (h:G82 s o) (hk:k < s.Covers.length):G82 s (H20 (k:Int) o):=⟨fun y hy=>by
 rcases G30.1 hy with rfl | hy
 ·omega
 ·exact h.mem y hy,Hd0 h.sorted⟩
theorem Z32 {s:Gh} {o:List Int} {k:Int} (h:G82 s o):G82 s (H83 k o):=⟨fun y hy=>h.mem y (G31.1 hy).1,Hd3 h.sorted⟩
section
variable {F:Nat} {s:Gh} {boxes:List Box} {l bf af:List G1} {o q set:List Int}
theorem Y85 {c:Int} (hk:∃ k:Nat,c=(k:Int)∧k < s.Covers.length) (hu:Q40 s l c) (hn:c ∉ o):Can s boxes (Hc6 (l,o,q)) (mvC 1 c)∧J2f (nxt (Hc6 (l,o,q)) (mvC 1 c))=(l,H20 c o,q):=by
 obtain⟨k,rfl,hk⟩:=hk
 exact⟨.inl ⟨rfl,rfl,rfl,by show (0:Int)≤(k:Int); omega,by show (k:Int) < _; omega,hn,hu⟩,by rw [Yd4 rfl]; rfl⟩
theorem Y0f {c:Int} (hk:∃ k:Nat,c=(k:Int)∧k < s.Covers.length) (h0:c∈o):Can s boxes (Hc6 (l,o,q)) (mvC 4 c)∧J2f (nxt (Hc6 (l,o,q)) (mvC 4 c))=(l,H83 c o,q):=by
 obtain⟨k,rfl,hk⟩:=hk
 exact⟨.inr (.inl ⟨rfl,rfl,rfl,by show (0:Int)≤(k:Int); omega,by show (k:Int) < _; omega,h0⟩),by rw [Yd1 rfl]; rfl⟩
theorem Ybf {x:G1} (hx:x∈l) (ho:H3c l x.Slot=[]) (hs:¬ J9b s o x.Slot):Can s boxes (Hc6 (l,o,q)) (mvS 2 x)∧J2f (nxt (Hc6 (l,o,q)) (mvS 2 x))=(H23 x.Box l,o,H20 x.Box q):=
 ⟨.inr (.inr (.inl ⟨rfl,rfl,hx,ho,hs⟩)),by rw [Yd3 rfl]; rfl⟩
theorem Y3d.can (h:G1c s boxes bf af set) (h2:Y3d s boxes af set l) {x:G1} (hx:x∈af) (hn:x ∉ l) (a3:¬ J0a s o x.Slot)
  (a0:∀ z∈af,z.Slot.G3=x.Slot.G3→z.Slot.Tier < x.Slot.Tier→z∈l) (a4:x.Box∈q):Can s boxes (Hc6 (l,o,q)) (mvS 3 x)∧J2f (nxt (Hc6 (l,o,q)) (mvS 3 x))=(H1f x l,o,H83 x.Box q)∧J7f l x (H1f x l)∧Y3d s boxes af set (H1f x l):=by
 obtain⟨b,hb,h3,h9⟩:=h.aft.each x hx
 have b1:l.length≤9:=by
  have a5:=G58 h2.sta.right.sorted
  have:=(List.nodup_cons.2 ⟨hn,a5⟩).length_le_of_subset (l₂:=af) (fun y hy=>by
   rcases Mq.1 hy with rfl | hy
   ·exact hx
   ·exact h2.sub y hy)
  have:=h.la
  simp only [Md] at *
  omega
 have h4:x.Box ∉ l.map (·.Box):=fun hm=>by
  obtain⟨y,hy,e⟩:=Mo.1 hm
  have:=Ha7 h.aft.sorted (h2.sub y hy) hx e
  exact hn (this ▸ hy)
 have h0:=H5e h2.sta.right.sorted h4
 have h5:¬ Rc5 l x.Slot:=fun⟨y,hy,hm⟩=>by
  have a6:=h2.sub y hy
  have a7:x≠y:=fun e=>hn (e ▸ hy)
  exact absurd hm (Y21 h.aft.apart hx a6 a7)
 have h1:H5a x.Slot (l.map (·.Slot)):=by
  have key:∀ half,below (af.map (·.Slot)) x.Slot half→below (l.map (·.Slot)) x.Slot half:=fun half a8=>by
   obtain⟨z,hz,e⟩:=G59 a8
   exact Mo.2 ⟨z,a0 z hz (by rw [e]) (by rw [e]; show x.Slot.Tier - 1 < x.Slot.Tier; omega),e⟩
  rcases h9 with g | g | ⟨g0,g1,g2⟩
  ·exact .inl g
  ·exact .inr (.inl (key _ g))
  ·exact .inr (.inr ⟨g0,key _ g1,key _ g2⟩)
 have h6:Rc8 s boxes (H1f x l) x.Slot:=fun m c e1 e2=>by
  have hq:=H1e h0 h2.sta.right.sorted h4
  have h7:∀ y∈H1f x l,y∈af:=fun y hy=>by
   rcases Mq.1 ((G33 h0).mem_iff.1 hy) with rfl | hy
   ·exact hx
   ·exact h2.sub y hy
  have:=h.aft.fits m c e2
  unfold J10 at this ⊢
  have a1:=Q95 (boxes:=boxes) (m:=(m:Int)) (half:=1) h.aft.sorted hq h7
  have a2:=Q95 (boxes:=boxes) (m:=(m:Int)) (half:=2) h.aft.sorted hq h7
  rcases this with h | ⟨h,h'⟩
  ·exact .inl h
  ·exact .inr ⟨by omega,by omega⟩
 have h8:∀ y,y∈H1f x l ↔ y=x∨y∈l:=fun y=>by rw [(G33 h0).mem_iff,Mq]
 have b0:(H1f x l).length=l.length+1:=by
  have:=(G33 h0).length_eq
  simpa using this
 refine⟨.inr (.inr (.inr ⟨rfl,rfl,a4,b,hb,h3,a3,h5,h1,h6⟩)),by rw [Yd2 rfl]; rfl,h0,⟨⟨h2.sta.ship,Jeb h2.sta.right hb h3 h5 h1 h0 h4 h6,by omega⟩,fun y hy=>?_,fun y hy a9=>(h8 y).2 (.inr (h2.keep y hy a9))⟩⟩
 rcases (h8 y).1 hy with rfl | hy
 ·exact hx
 ·exact h2.sub y hy
structure Qf9 (s:Gh) (boxes:List Box) (bf:List G1) (set q0:List Int) (G:G1→Prop) (l:List G1) (q:List Int):Prop where
 way:R58 s boxes bf set l
 gone:∀ x∈bf,x.Box∈set→(x∈l ↔ ¬ G x)
 nod:q.Nodup
 mem:∀ id,id∈q ↔ id∈q0∨∃ x∈bf,x.Box=id∧x.Box∈set∧G x
 len:q.length≤q0.length+bf.length
theorem Qf9.congr {q0:List Int} {G G':G1→Prop} (h:Qf9 s boxes bf set q0 G l q) (hg:∀ x∈bf,x.Box∈set→(G x ↔ G' x)):Qf9 s boxes bf set q0 G' l q:=
 ⟨h.way,fun x hx hm=>by rw [h.gone x hx hm,hg x hx hm],h.nod,fun id=>by
  rw [h.mem]
  constructor
  ·rintro(h | ⟨x,hx,e,hm,hG⟩)
   ·exact .inl h
   ·exact .inr ⟨x,hx,e,hm,(hg x hx hm).1 hG⟩
  ·rintro(h | ⟨x,hx,e,hm,hG⟩)
   ·exact .inl h
   ·exact .inr ⟨x,hx,e,hm,(hg x hx hm).2 hG⟩,h.len⟩
theorem R0f (h:G1c s boxes bf af set) (hO:G82 s o) {q0:List Int} (a8:q0.length≤20) (hd:∀ id∈q0,id ∉ bf.map (·.Box)) {G:G1→Prop} (hI:Qf9 s boxes bf set q0 G l q) (xs:List G1) (h7:xs.Nodup)
  (hb:∀ x∈xs,x∈bf∧x.Box∈set∧¬ G x) (a5:∀ pre x post,xs=pre++x::post→∀ y∈bf,y.Box∈set→H44 y.Slot x.Slot→G y∨y∈pre) (hs:∀ x∈xs,¬ J9b s o x.Slot) :
  ∃ l' q',G20 F s boxes (xs.map (mvS 2)) (l,o,q)=some (l',o,q')∧Qf9 s boxes bf set q0 (fun x=>G x∨x∈xs) l' q':=by
 have a9:=h.lb
 refine Exists.elim (Jb2 (F:=F) (s:=s) (boxes:=boxes) (f:=mvS 2) (fun pre st=>st.2.1=o∧Qf9 s boxes bf set q0 (fun x=>G x∨x∈pre) st.1 st.2.2) (xs:=xs) (st:=(l,o,q)) ⟨rfl,hI.congr (fun x _ _=>by simp)⟩ (fun pre x post st e hJ=>?_)) (fun st' a6=>?_)
 rotate_left
 ·obtain⟨e,e2,hr⟩:=a6
  refine⟨st'.1,st'.2.2,?_,hr⟩
  rw [e,← e2]
 ·obtain⟨j1,j2⟩:=hJ
  have hx:x∈xs:=by rw [e]; simp
  obtain⟨b1,b2,b3⟩:=hb x hx
  have h8:x ∉ pre:=fun hm=>by
   rw [e,List.nodup_append] at h7
   exact h7.2.2 x hm x (by simp) rfl
  have h9:x∈st.1:=(j2.gone x b1 b2).2 fun hh=>hh.elim b3 h8
  have ho:H3c st.1 x.Slot=[]:=List.eq_nil_iff_forall_not_mem.2 fun b hb=>by
   obtain⟨y,hy,_,a0⟩:=Ge4.1 hb
   have h2:=j2.way.sub y hy
   have h0:=h.over b1 h2 b2 a0
   exact(j2.gone y h2 h0).1 hy (a5 pre x post e y h2 h0 a0)
  have b0:=j2.len
  obtain⟨p1,p2,ep⟩:=List.append_of_mem h9
  have a1:=j2.way.sta.right.sorted
  have h1:H23 x.Box st.1=p1++p2:=by rw [ep] at a1 ⊢; exact J5f a1
  obtain⟨st1,st2,st3⟩:=st
  have j1:st2=o:=j1
  subst j1
  obtain⟨hc,es⟩:=Ybf (boxes:=boxes) (q:=st3) h9 ho (hs x hx)
  refine⟨hc,?_⟩
  rw [es]
  have a2:x.Box ∉ st3:=fun hm=>by
   rcases (j2.mem x.Box).1 hm with hm | ⟨y,hy,ey,h0,hG⟩
   ·exact hd _ hm (Mo.2 ⟨x,b1,rfl⟩)
   ·have:=Ha7 h.bef.sorted hy b1 ey
    subst this
    exact hG.elim b3 h8
  have h1:H23 x.Box st1=p1++p2:=h1
  have ep:st1=p1++x::p2:=ep
  refine⟨rfl,?_⟩
  show Qf9 s boxes bf set q0 _ (H23 x.Box st1) (H20 x.Box st3)
  rw [h1]
  have h6:∀ y,y∈st1 ↔ y=x∨y∈p1++p2:=fun y=>by
   rw [ep]
   simp only [Mn,Mq]
   constructor
   ·rintro(h | h | h)
    ·exact .inr (.inl h)
    ·exact .inl h
    ·exact .inr (.inr h)
   ·rintro(h | h | h)
    ·exact .inr (.inl h)
    ·exact .inl h
    ·exact .inr (.inr h)
  have a7:x ∉ p1++p2:=fun hm=>by
   have hn:=G58 j2.way.sta.right.sorted
   have hn:st1.Nodup:=hn
   rw [ep] at hn
   have:=(List.nodup_cons.1 (List.perm_middle.nodup_iff.1 hn)).1
   exact this hm
  have a3:∀ id,id∈H20 x.Box st3 ↔ id∈q0∨∃ y∈bf,y.Box=id∧y.Box∈set∧(G y∨y∈pre++[x]):=fun id=>by
   rw [G30,j2.mem]
   constructor
   ·rintro(rfl | h | ⟨y,hy,ey,h0,hG⟩)
    ·exact .inr ⟨x,b1,rfl,b2,.inr (by simp)⟩
    ·exact .inl h
    ·exact .inr ⟨y,hy,ey,h0,hG.elim .inl (fun h5=>.inr (Mn.2 (.inl h5)))⟩
   ·rintro(h | ⟨y,hy,ey,h0,hG | hG⟩)
    ·exact .inr (.inl h)
    ·exact .inr (.inr ⟨y,hy,ey,h0,.inl hG⟩)
    ·rcases Mn.1 hG with hG | hG
     ·exact .inr (.inr ⟨y,hy,ey,h0,.inr hG⟩)
     ·rw [Mp] at hG; subst hG; exact .inl ey.symm
  refine⟨j2.way.take ep b2 ho,fun y hy hm=>?_,Qb8 j2.nod a2,a3,?_⟩
  ·have hg:=j2.gone y hy hm
   have e9:y∈pre++[x] ↔ y∈pre∨y=x:=by rw [Mn,Mp]
   show y∈p1++p2 ↔ ¬ (G y∨y∈pre++[x])
   rw [e9]
   constructor
   ·intro a4
    have h3:=hg.1 ((h6 y).2 (.inr a4))
    rintro(h4 | h4 | h4)
    ·exact h3 (.inl h4)
    ·exact h3 (.inr h4)
    ·exact a7 (h4 ▸ a4)
   ·intro h3
    rcases (h6 y).1 (hg.2 fun h4=>h3 (h4.elim .inl (fun h5=>.inr (.inl h5)))) with h4 | h4
    ·exact(h3 (.inr (.inr h4))).elim
    ·exact h4
  ·have:=(Qb8 j2.nod a2).length_le_of_subset (l₂:=q0++bf.map (·.Box)) (fun a ha=>by
    rcases (a3 a).1 ha with ha | ⟨y,hy,ey,_⟩
    ·exact Mn.2 (.inl ha)
    ·exact Mn.2 (.inr (Mo.2 ⟨y,hy,ey⟩)))
   simpa using this
theorem Y23 (h:Sta s boxes l) (hO:G82 s o) (hF:20≤F) (ks:List Int) (h0:ks.Nodup) (hk:∀ k∈ks,∃ j:Nat,k=(j:Int)∧j < s.Covers.length∧Q40 s l (j:Int)∧(j:Int) ∉ o) :
  ∃ o',G20 F s boxes (ks.map (mvC 1)) (l,o,q)=some (l,o',q)∧G82 s o'∧∀ a,a∈o' ↔ a∈o∨a∈ks:=by
 refine Exists.elim (Jb2 (F:=F) (s:=s) (boxes:=boxes) (f:=mvC 1) (fun pre st=>st.1=l∧st.2.2=q∧G82 s st.2.1∧∀ a,a∈st.2.1 ↔ a∈o∨a∈pre) (xs:=ks) (st:=(l,o,q)) ⟨rfl,rfl,hO,fun a=>by simp⟩ (fun pre x post st e hJ=>?_)) (fun st' h5=>?_)
 rotate_left
 ·obtain⟨e,h1,h2,h3,h4⟩:=h5
  refine⟨st'.2.1,?_,h3,h4⟩
  rw [e,← h1,← h2]
 ·obtain⟨st1,st2,st3⟩:=st
  obtain⟨j1,j2,j3,j4⟩:=hJ
  have j1:st1=l:=j1
  have j2:st3=q:=j2
  subst j1 j2
  obtain⟨j,rfl,hj,hu,hn⟩:=hk x (by rw [e]; simp)
  have h6:(j:Int) ∉ pre:=fun hm=>by
   rw [e,List.nodup_append] at h0
   exact h0.2.2 _ hm _ (by simp) rfl
  obtain⟨hc,es⟩:=Y85 (boxes:=boxes) (l:=st1) (o:=st2) (q:=st3) ⟨j,rfl,hj⟩ hu (fun hh=>((j4 _).1 hh).elim hn h6)
  refine⟨hc,?_⟩
  rw [es]
  refine⟨rfl,rfl,Z2d j3 hj,fun a=>?_⟩
  show a∈H20 (j:Int) st2 ↔ _
  rw [G30,j4,Mn,Mp]
  constructor
  ·rintro(h | h | h)
   ·exact .inr (.inr h)
   ·exact .inl h
   ·exact .inr (.inl h)
  ·rintro(h | h | h)
   ·exact .inr (.inl h)
   ·exact .inr (.inr h)
   ·exact .inl h
theorem Rbb (h:Sta s boxes l) (hO:G82 s o) (hF:20≤F) (ks:List Int) (h0:ks.Nodup) (hk:∀ k∈ks,∃ j:Nat,k=(j:Int)∧j < s.Covers.length∧(j:Int)∈o) :
  ∃ o',G20 F s boxes (ks.map (mvC 4)) (l,o,q)=some (l,o',q)∧G82 s o'∧∀ a,a∈o' ↔ a∈o∧a ∉ ks:=by
 refine Exists.elim (Jb2 (F:=F) (s:=s) (boxes:=boxes) (f:=mvC 4) (fun pre st=>st.1=l∧st.2.2=q∧G82 s st.2.1∧∀ a,a∈st.2.1 ↔ a∈o∧a ∉ pre) (xs:=ks) (st:=(l,o,q)) ⟨rfl,rfl,hO,fun a=>by simp⟩ (fun pre x post st e hJ=>?_)) (fun st' h5=>?_)
 rotate_left
 ·obtain⟨e,h1,h2,h3,h4⟩:=h5
  refine⟨st'.2.1,?_,h3,h4⟩
  rw [e,← h1,← h2]
 ·obtain⟨st1,st2,st3⟩:=st
  obtain⟨j1,j2,j3,j4⟩:=hJ
  have j1:st1=l:=j1
  have j2:st3=q:=j2
  subst j1 j2
  obtain⟨j,rfl,hj,h6⟩:=hk x (by rw [e]; simp)
  have h7:(j:Int) ∉ pre:=fun hm=>by
   rw [e,List.nodup_append] at h0
   exact h0.2.2 _ hm _ (by simp) rfl
  obtain⟨hc,es⟩:=Y0f (boxes:=boxes) (l:=st1) (o:=st2) (q:=st3) ⟨j,rfl,hj⟩ ((j4 _).2 ⟨h6,h7⟩)
  refine⟨hc,?_⟩
  rw [es]
  refine⟨rfl,rfl,Z32 j3,fun a=>?_⟩
  show a∈H83 (j:Int) st2 ↔ _
  rw [G31,j4,Mn,Mp]
  exact⟨fun⟨⟨a,b⟩,c⟩=>⟨a,fun h=>h.elim b c⟩,fun⟨a,b⟩=>⟨⟨a,fun h=>b (.inl h)⟩,fun h=>b (.inr h)⟩⟩
structure InI (s:Gh) (boxes:List Box) (af:List G1) (set:List Int) (Q0:Int→Prop) (G:G1→Prop) (l:List G1) (q:List Int):Prop where
 way:Y3d s boxes af set l
 come:∀ x∈af,x.Box∈set→(x∈l ↔ G x)
 nod:q.Nodup
 mem:∀ id,id∈q ↔ Q0 id∧¬ ∃ x∈af,x.Box=id∧x.Box∈set∧G x
 len:q.length≤100
theorem InI.congr {Q0:Int→Prop} {G G':G1→Prop} (h:InI s boxes af set Q0 G l q) (hg:∀ x∈af,x.Box∈set→(G x ↔ G' x)):InI s boxes af set Q0 G' l q:=
 ⟨h.way,fun x hx hm=>by rw [h.come x hx hm,hg x hx hm],h.nod,fun id=>by
  rw [h.mem]
  refine and_congr_right fun _=>not_congr ⟨?_,?_⟩
  ·rintro⟨x,hx,e,hm,hG⟩
   exact⟨x,hx,e,hm,(hg x hx hm).1 hG⟩
  ·rintro⟨x,hx,e,hm,hG⟩
   exact⟨x,hx,e,hm,(hg x hx hm).2 hG⟩,h.len⟩
theorem Raf (h:G1c s boxes bf af set) (hO:G82 s o) (hF:20≤F) {Q0:Int→Prop} (hQ:∀ x∈af,x.Box∈set→Q0 x.Box) {G:G1→Prop} (hI:InI s boxes af set Q0 G l q) (xs:List G1) (h2:xs.Nodup)
  (hb:∀ x∈xs,x∈af∧x.Box∈set∧¬ G x) (h4:∀ pre x post,xs=pre++x::post→∀ z∈af,z.Box∈set→z.Slot.G3=x.Slot.G3→z.Slot.Tier < x.Slot.Tier→G z∨z∈pre) (hs:∀ x∈xs,¬ J0a s o x.Slot) :
  ∃ l' q',G20 F s boxes (xs.map (mvS 3)) (l,o,q)=some (l',o,q')∧InI s boxes af set Q0 (fun x=>G x∨x∈xs) l' q':=by
 refine Exists.elim (Jb2 (F:=F) (s:=s) (boxes:=boxes) (f:=mvS 3) (fun pre st=>st.2.1=o∧InI s boxes af set Q0 (fun x=>G x∨x∈pre) st.1 st.2.2) (xs:=xs) (st:=(l,o,q)) ⟨rfl,hI.congr (fun x _ _=>by simp)⟩ (fun pre x post st e hJ=>?_)) (fun st' h6=>?_)
 rotate_left
 ·obtain⟨e,e2,hr⟩:=h6
  refine⟨st'.1,st'.2.2,?_,hr⟩
  rw [e,← e2]
 ·obtain⟨st1,st2,st3⟩:=st
  obtain⟨j1,j2⟩:=hJ
  have j1:st2=o:=j1
  subst j1
  have j2:InI s boxes af set Q0 (fun x=>G x∨x∈pre) st1 st3:=j2
  have hx:x∈xs:=by rw [e]; simp
  obtain⟨b1,b2,b3⟩:=hb x hx
  have h3:x ∉ pre:=fun hm=>by
   rw [e,List.nodup_append] at h2
   exact h2.2.2 x hm x (by simp) rfl
  have h8:x ∉ st1:=fun hm=>((j2.come x b1 b2).1 hm).elim b3 h3
  have h9:x.Box∈st3:=(j2.mem x.Box).2 ⟨hQ x b1 b2,fun⟨y,hy,ey,h0,hG⟩=>by
   have:=Ha7 h.aft.sorted hy b1 ey
   subst this
   exact hG.elim b3 h3⟩
  obtain⟨hc,es,h7,hw⟩:=j2.way.can h b1 h8 (hs x hx) (fun z hz a0 a1=>by
   by_cases h1:z.Box∈set
   ·exact(j2.come z hz h1).2 (h4 pre x post e z hz h1 a0 a1)
   ·exact j2.way.keep z hz h1) h9
  refine⟨hc,?_⟩
  rw [es]
  have a2:(H83 x.Box st3).length≤100:=Nat.le_trans (Ky _ _) j2.len
  refine⟨rfl,⟨hw,fun y hy hm=>?_,j2.nod.sublist List.filter_sublist,fun id=>?_,a2⟩⟩
  ·show y∈H1f x st1 ↔ (G y∨y∈pre++[x])
   rw [(G33 h7).mem_iff,Mq,j2.come y hy hm,Mn,Mp]
   constructor
   ·rintro(h | h | h)
    ·exact .inr (.inr h)
    ·exact .inl h
    ·exact .inr (.inl h)
   ·rintro(h | h | h)
    ·exact .inr (.inl h)
    ·exact .inr (.inr h)
    ·exact .inl h
  ·show id∈H83 x.Box st3 ↔ _
   rw [G31,j2.mem]
   constructor
   ·rintro⟨⟨g1,g2⟩,g3⟩
    refine⟨g1,fun⟨y,hy,ey,h0,hG⟩=>?_⟩
    rcases hG with hG | hG
    ·exact g2 ⟨y,hy,ey,h0,.inl hG⟩
    ·rcases Mn.1 hG with hG | hG
     ·exact g2 ⟨y,hy,ey,h0,.inr hG⟩
     ·rw [Mp] at hG; subst hG; exact g3 ey.symm
   ·rintro⟨g1,g2⟩
    exact⟨⟨g1,fun⟨y,hy,ey,h0,hG⟩=>g2 ⟨y,hy,ey,h0,hG.elim .inl (fun h5=>.inr (Mn.2 (.inl h5)))⟩⟩,fun e2=>g2 ⟨x,b1,e2.symm,b2,.inr (by simp)⟩⟩
end
section
variable {F:Nat} {s:Gh} {boxes:List Box} {l bf af:List G1} {o q q0 set:List Int}
def Ys (s:Gh) (x:G1):Int:=(G0e s x.Slot).Bay
def Jd9 (s:Gh) (bf af:List G1) (set:List Int) (P:Int→Prop) (a:Int):Prop:=0≤a∧∃ x,(x∈bf∨x∈af)∧x.Box∈set∧(G0e s x.Slot).Deck=false∧Gfd s x=a∧P (Ys s x)
theorem J60 {c:G3} {k:Nat} (h:Jt s c=(k:Int)):k < s.Covers.length∧∃ x,s.Covers[k]? = some x∧x.Bay=c.Bay:=by
 unfold Jt at h
 rcases H21 (fun x=>Hd4 x c) s.Covers with ⟨h1,_⟩ | ⟨m,x,h1,h2,h3,_⟩
 ·rw [h1] at h; omega
 ·have:m=k:=by omega
  subst this
  have h3:Hd4 x c=true:=h3
  unfold Hd4 at h3
  rw [Mj] at h3
  exact⟨(M5 h2).1,x,h2,M1 h3.1⟩
theorem Jc4 {c d:G3} (h0:0≤Jt s c) (h:Jt s c=Jt s d):c.Bay=d.Bay:=by
 obtain⟨k,hk⟩:∃ k:Nat,Jt s c=(k:Int):=⟨(Jt s c).toNat,by omega⟩
 obtain⟨_,x,hx,e1⟩:=J60 hk
 obtain⟨_,y,hy,e2⟩:=J60 (h ▸ hk)
 rw [hx] at hy; cases hy
 exact e1.symm.trans e2
theorem Qac {l:List G1} {n:Int} {d:Bool} {x:G1}:x∈Zh s l set n d ↔ x∈l∧Ys s x=n∧(G0e s x.Slot).Deck=d∧x.Box∈set:=by
 rw [Ge3,H7e]
 rfl
theorem J32 {n a:Int}:a∈G7f s bf af set n ↔ Jd9 s bf af set (·=n) a:=by
 rw [Q2e]
 unfold Jd9
 refine and_congr_right fun _=>⟨?_,?_⟩
 ·rintro⟨x,hx,hp,e⟩
  obtain⟨h1,h2,h3⟩:=H7e.1 hp
  exact⟨x,hx,h3,h2,e,h1⟩
 ·rintro⟨x,hx,h3,h2,e,h1⟩
  exact⟨x,hx,H7e.2 ⟨h1,h2,h3⟩,e⟩
theorem Jc5 {x y:Slot} (e:y.G3=x.G3):G0e s y=G0e s x:=by
 unfold G0e
 rw [e]
theorem Ye9 {x:Slot} (h:Hb1 s x):∃ m:Nat,x.G3=(m:Int)∧s.Columns[m]? = some (G0e s x):=by
 obtain⟨m,c,h1,h2⟩:=h
 exact⟨m,h1,by rw [H43 h1 h2]; exact h2⟩
theorem G1c.col1 (h:G1c s boxes bf af set) {x:G1} (hx:x∈bf):∃ m:Nat,x.Slot.G3=(m:Int)∧s.Columns[m]? = some (G0e s x.Slot):=by
 obtain⟨b,_,h1,_⟩:=h.bef.each x hx
 exact Ye9 (Gd6 h1)
theorem G1c.col2 (h:G1c s boxes bf af set) {x:G1} (hx:x∈af):∃ m:Nat,x.Slot.G3=(m:Int)∧s.Columns[m]? = some (G0e s x.Slot):=by
 obtain⟨b,_,h1,_⟩:=h.aft.each x hx
 exact Ye9 (Gd6 h1)
theorem G1c.bays (h:G1c s boxes bf af set) {x:G1} (hx:x∈bf∨x∈af):0≤Ys s x∧Ys s x < 40:=by
 have hc:∃ m:Nat,x.Slot.G3=(m:Int)∧s.Columns[m]? = some (G0e s x.Slot):=hx.elim h.col1 h.col2
 obtain⟨m,_,hc⟩:=hc
 obtain⟨c0,hh,h0,_,e⟩:=h.ship.each _ (M8 hc)
 unfold Ys
 have:=h0.bay
 rw [e]
 show 0≤c0.Bay∧c0.Bay < 40
 omega
theorem R2e {D pre post:List G1} {x y:G1} (hD:D.Pairwise (Q46 J6b)) (e:D=pre++x::post) (hy:y∈D) (ht:x.Slot.Tier < y.Slot.Tier):y∈pre:=by
 rw [e] at hy hD
 rcases Mn.1 hy with hy | hy
 ·exact hy
 ·rcases Mq.1 hy with rfl | hy
  ·omega
  ·have:=(List.pairwise_cons.1 (List.pairwise_append.1 hD).2.1).1 y hy
   unfold Q46 J6b at this
   rw [H35] at this
   exact(this ht).elim
theorem R2a {D pre post:List G1} {x y:G1} (hD:D.Pairwise (Q46 Ra4)) (e:D=pre++x::post) (hy:y∈D) (ht:y.Slot.Tier < x.Slot.Tier):y∈pre:=by
 rw [e] at hy hD
 rcases Mn.1 hy with hy | hy
 ·exact hy
 ·rcases Mq.1 hy with rfl | hy
  ·omega
  ·have:=(List.pairwise_cons.1 (List.pairwise_append.1 hD).2.1).1 y hy
   unfold Q46 at this
   rw [J51] at this
   exact(this (.inl ht)).elim
theorem J93 {l:List G1} (hs:l.Pairwise (fun a b=>a.Box < b.Box)) {n:Int} {d:Bool}:(Zh s l set n d).Nodup:=by
 unfold Zh
 exact(H1d _ _).nodup_iff.2 ((G58 hs).sublist List.filter_sublist)
theorem Q2b {l:List G1} {n:Int} {d:Bool}:(Zh s l set n d).Pairwise (Q46 Ra4):=H3f Y20 _
theorem Z23 (h:G1c s boxes bf af set) (hO:G82 s o) (hF:20≤F) (a1:q0.length≤20) (hd:∀ id∈q0,id ∉ bf.map (·.Box)) {n:Nat} (hI:Qf9 s boxes bf set q0 (fun x=>Ys s x < (n:Int)) l q) (hc:∀ a,a∈o ↔ Jd9 s bf af set (· < (n:Int)) a) :
  ∃ l' o' q',G20 F s boxes (J2e s bf af set (n:Int)) (l,o,q)=some (l',o',q')∧G82 s o'∧Qf9 s boxes bf set q0 (fun x=>Ys s x < ((n+1:Nat):Int)) l' q'∧∀ a,a∈o' ↔ Jd9 s bf af set (· < ((n+1:Nat):Int)) a:=by
 have over_bay:∀ {d:Bool} {x y:G1},x∈bf→y∈bf→x.Box∈set→Ys s x=(n:Int)→(G0e s x.Slot).Deck=d→H44 y.Slot x.Slot→y∈Zh s bf set (n:Int) d:=fun {d x y} hx hy hm hb a4 ho=>Qac.2 ⟨hy,by unfold Ys at hb ⊢; rw [Jc5 ho.1]; exact hb,by rw [Jc5 ho.1]; exact a4,h.over hx hy hm ho⟩
 have mD:∀ {d:Bool} {x:G1},x∈H4e J6b (Zh s bf set (n:Int) d) ↔ x∈bf∧Ys s x=(n:Int)∧(G0e s x.Slot).Deck=d∧x.Box∈set:=fun {d x}=>by rw [H7c,Qac]
 have nD:∀ d:Bool,(H4e J6b (Zh s bf set (n:Int) d)).Nodup:=fun d=>(H1d _ _).nodup_iff.2 (J93 h.bef.sorted)
 -- the deck
 obtain⟨l1,q1,r1,i1⟩:=R0f (F:=F) h hO a1 hd hI (H4e J6b (Zh s bf set (n:Int) true)) (nD true) (fun x hx=>by
  obtain⟨a,b,c,d⟩:=mD.1 hx
  exact⟨a,d,by show ¬ Ys s x < (n:Int); omega⟩) (fun pre x post e y hy h7 ho=>by
  obtain⟨a,b,c,d⟩:=mD.1 (show x∈H4e J6b (Zh s bf set (n:Int) true) by rw [e]; simp)
  exact .inr (R2e (H3f Qce _) e (H7c.2 (over_bay a hy d b c ho)) ho.2.1)) (fun x hx=>by
  obtain⟨a,b,c,d⟩:=mD.1 hx
  rintro⟨m,c',e1,e2,e3,_⟩
  rw [H43 e1 e2,e3] at c
  cases c)
 -- the covers
 obtain⟨o2,r2,a2,a3⟩:=Y23 (F:=F) (q:=q1) i1.way.sta hO hF (G7f s bf af set (n:Int)) J76 (fun k hk=>by
  obtain⟨k0,x,hx,h8,a5,a6,h9⟩:=J32.1 hk
  obtain⟨j,rfl⟩:∃ j:Nat,k=(j:Int):=⟨k.toNat,by omega⟩
  obtain⟨m,em,ec⟩:∃ m:Nat,x.Slot.G3=(m:Int)∧s.Columns[m]? = some (G0e s x.Slot):=hx.elim h.col1 h.col2
  have a7:Jt s (G0e s x.Slot)=(j:Int):=a6
  obtain⟨a8,cv,b0,b1⟩:=J60 a7
  refine⟨j,rfl,a8,fun y hy m1 c1 e1 e2 e3 e4=>?_,fun a9=>?_⟩
  ·have h0:=i1.way.sub y hy
   have h7:=h.upon hx (.inl h0) h8 ⟨m,_,m1,c1,em,ec,e1,e2,a5,e3,by omega,by omega⟩
   have h6:=H43 e1 e2
   refine(i1.gone y h0 h7).1 hy (.inr (mD.2 ⟨h0,?_,by rw [h6]; exact e3,h7⟩))
   unfold Ys at h9 ⊢
   rw [h6,← h9]
   exact(Jc4 (s:=s) (c:=G0e s x.Slot) (d:=c1) (by omega) (by omega)).symm
  ·obtain⟨_,y,_,_,_,h6,h0⟩:=(hc _).1 a9
   have h6:Jt s (G0e s y.Slot)=(j:Int):=h6
   have:=Jc4 (s:=s) (c:=G0e s x.Slot) (d:=G0e s y.Slot) (by omega) (by omega)
   unfold Ys at h9 h0
   omega)
 -- the hold
 obtain⟨l3,q3,r3,i3⟩:=R0f (F:=F) h a2 a1 hd i1 (H4e J6b (Zh s bf set (n:Int) false)) (nD false) (fun x hx=>by
  obtain⟨a,b,c,d⟩:=mD.1 hx
  refine⟨a,d,fun hh=>hh.elim (fun h=>by have h:Ys s x < (n:Int):=h; omega) (fun h=>?_)⟩
  rw [(mD.1 h).2.2.1] at c
  cases c) (fun pre x post e y hy h7 ho=>by
  obtain⟨a,b,c,d⟩:=mD.1 (show x∈H4e J6b (Zh s bf set (n:Int) false) by rw [e]; simp)
  exact .inr (R2e (H3f Qce _) e (H7c.2 (over_bay a hy d b c ho)) ho.2.1)) (fun x hx=>by
  obtain⟨a,b,c,d⟩:=mD.1 hx
  rintro⟨m,c',e1,e2,e3,e4,e5⟩
  exact e5 ((a3 _).2 (.inr (J32.2 ⟨e4,x,.inl a,d,c,by unfold Gfd; rw [H43 e1 e2],b⟩))))
 refine⟨l3,o2,q3,?_,a2,i3.congr (fun x hx h8=>?_),fun a=>?_⟩
 ·unfold J2e
  exact G2c _ _ _ _ _ (G2c _ _ _ _ _ r1 r2) r3
 ·rw [mD,mD]
  constructor
  ·rintro((h | h) | h)
   ·omega
   ·omega
   ·omega
  ·intro hh
   by_cases hb:Ys s x < (n:Int)
   ·exact .inl (.inl hb)
   ·cases b2:(G0e s x.Slot).Deck with
    | true=>exact .inl (.inr ⟨hx,by omega,rfl,h8⟩)
    | false=>exact .inr ⟨hx,by omega,rfl,h8⟩
 ·rw [a3,hc,J32]
  constructor
  ·rintro(⟨a0,x,h1,h2,h3,h4,h5⟩ | ⟨a0,x,h1,h2,h3,h4,h5⟩)
   ·exact⟨a0,x,h1,h2,h3,h4,by omega⟩
   ·exact⟨a0,x,h1,h2,h3,h4,by omega⟩
  ·rintro⟨a0,x,h1,h2,h3,h4,h5⟩
   by_cases hb:Ys s x < (n:Int)
   ·exact .inl ⟨a0,x,h1,h2,h3,h4,hb⟩
   ·exact .inr ⟨a0,x,h1,h2,h3,h4,by omega⟩
theorem Z73 (h:G1c s boxes bf af set) (hO:G82 s o) (hF:20≤F) {Q0:Int→Prop} (hQ:∀ x∈af,x.Box∈set→Q0 x.Box) {n:Nat} (hI:InI s boxes af set Q0 (fun x=>Ys s x < (n:Int)) l q) (hc:∀ a,a∈o ↔ Jd9 s bf af set ((n:Int)≤·) a) :
  ∃ l' o' q',G20 F s boxes (Q37 s bf af set (n:Int)) (l,o,q)=some (l',o',q')∧G82 s o'∧InI s boxes af set Q0 (fun x=>Ys s x < ((n+1:Nat):Int)) l' q'∧∀ a,a∈o' ↔ Jd9 s bf af set (((n+1:Nat):Int)≤·) a:=by
 have mD:∀ {d:Bool} {x:G1},x∈Zh s af set (n:Int) d ↔ x∈af∧Ys s x=(n:Int)∧(G0e s x.Slot).Deck=d∧x.Box∈set:=Qac
 have same_bay:∀ {d:Bool} {x z:G1},x∈Zh s af set (n:Int) d→z∈af→z.Box∈set→z.Slot.G3=x.Slot.G3→z∈Zh s af set (n:Int) d:=fun {d x z} hx hz h6 e=>by
  obtain⟨a,b,c,d'⟩:=mD.1 hx
  exact mD.2 ⟨hz,by unfold Ys at b ⊢; rw [Jc5 e]; exact b,by rw [Jc5 e]; exact c,h6⟩
 -- the hold
 obtain⟨l1,q1,r1,i1⟩:=Raf (F:=F) h hO hF hQ hI (Zh s af set (n:Int) false) (J93 h.aft.sorted) (fun x hx=>by
  obtain⟨a,b,c,d⟩:=mD.1 hx
  exact⟨a,d,by show ¬ Ys s x < (n:Int); omega⟩) (fun pre x post e z hz h6 a1 a2=>.inr (R2a Q2b e (same_bay (by rw [e]; simp) hz h6 a1) a2)) (fun x hx=>by
  obtain⟨a,b,c,d⟩:=mD.1 hx
  rintro⟨m,c',e1,e2,e3,e4⟩
  have h7:=H43 e1 e2
  have a6:Jt s c'∈o:=(hc _).2 ⟨e3,x,.inr a,d,c,by unfold Gfd; rw [h7],by show (n:Int)≤Ys s x; omega⟩
  rw [h7,e4.2 a6] at c
  cases c)
 -- the covers
 obtain⟨o2,r2,a3,a7⟩:=Rbb (F:=F) (q:=q1) i1.way.sta hO hF (G7f s bf af set (n:Int)) J76 (fun k hk=>by
  obtain⟨k0,x,hx,h8,a8,a4,b0⟩:=J32.1 hk
  obtain⟨j,rfl⟩:∃ j:Nat,k=(j:Int):=⟨k.toNat,by omega⟩
  have a9:Jt s (G0e s x.Slot)=(j:Int):=a4
  exact⟨j,rfl,(J60 a9).1,(hc _).2 ⟨k0,x,hx,h8,a8,a4,by show (n:Int)≤Ys s x; omega⟩⟩)
 have a5:∀ a,a∈o2 ↔ Jd9 s bf af set (((n+1:Nat):Int)≤·) a:=fun a=>by
  rw [a7,hc,J32]
  constructor
  ·rintro⟨⟨a0,x,h1,h2,h3,h4,h5⟩,hn⟩
   have h5:(n:Int)≤Ys s x:=h5
   refine⟨a0,x,h1,h2,h3,h4,?_⟩
   show ((n+1:Nat):Int)≤Ys s x
   have:Ys s x≠(n:Int):=fun e=>hn ⟨a0,x,h1,h2,h3,h4,e⟩
   omega
  ·rintro⟨a0,x,h1,h2,h3,h4,h5⟩
   have h5:((n+1:Nat):Int)≤Ys s x:=h5
   refine⟨⟨a0,x,h1,h2,h3,h4,by show (n:Int)≤Ys s x; omega⟩,fun⟨_,y,_,_,_,h9,h0⟩=>?_⟩
   have h0:Ys s y=(n:Int):=h0
   unfold Gfd at h4 h9
   have:=Jc4 (s:=s) (c:=G0e s x.Slot) (d:=G0e s y.Slot) (by omega) (by omega)
   unfold Ys at h5 h0
   omega
 -- the deck
 obtain⟨l3,q3,r3,i3⟩:=Raf (F:=F) h a3 hF hQ i1 (Zh s af set (n:Int) true) (J93 h.aft.sorted) (fun x hx=>by
  obtain⟨a,b,c,d⟩:=mD.1 hx
  refine⟨a,d,fun hh=>hh.elim (fun h=>by have h:Ys s x < (n:Int):=h; omega) (fun h=>?_)⟩
  rw [(mD.1 h).2.2.1] at c
  cases c) (fun pre x post e z hz h6 a1 a2=>.inr (R2a Q2b e (same_bay (by rw [e]; simp) hz h6 a1) a2)) (fun x hx=>by
  obtain⟨a,b,c,d⟩:=mD.1 hx
  rintro⟨m,c',e1,e2,e3,e4⟩
  have h7:=H43 e1 e2
  rw [h7] at c
  obtain⟨_,y,_,_,_,h9,h0⟩:=(a5 _).1 (e4.1 c)
  have h0:((n+1:Nat):Int)≤Ys s y:=h0
  unfold Gfd at h9
  have:=Jc4 (s:=s) (c:=c') (d:=G0e s y.Slot) e3 h9.symm
  unfold Ys at b h0
  rw [h7] at b
  omega)
 refine⟨l3,o2,q3,?_,a3,i3.congr (fun x hx h8=>?_),a5⟩
 ·unfold Q37
  exact G2c _ _ _ _ _ (G2c _ _ _ _ _ r1 r2) r3
 ·rw [mD,mD]
  constructor
  ·rintro((h | h) | h)
   ·omega
   ·omega
   ·omega
  ·intro hh
   by_cases hb:Ys s x < (n:Int)
   ·exact .inl (.inl hb)
   ·cases b1:(G0e s x.Slot).Deck with
    | true=>exact .inr ⟨hx,by omega,rfl,h8⟩
    | false=>exact .inl (.inr ⟨hx,by omega,rfl,h8⟩)
theorem Y8f (h:G1c s boxes bf af set) (hF:20≤F) (h8:q0.length≤20) (h9:q0.Nodup) (hd:∀ id∈q0,id ∉ bf.map (·.Box)) (a1:∀ x∈af,x.Box ∉ bf.map (·.Box)→x.Box∈q0) :
  ∃ q',G20 F s boxes (H0e s bf af set) (bf,[],q0)=some (af,[],q')∧q'.Nodup∧∀ id,id∈q' ↔ (id∈q0∨∃ x∈bf,x.Box=id∧x.Box∈set)∧¬ ∃ x∈af,x.Box=id∧x.Box∈set:=by
 have a3:=h.lb
 have outN:∀ n:Nat,∃ l' o' q',G20 F s boxes (outs s bf af set n) (bf,[],q0)=some (l',o',q')∧G82 s o'∧Qf9 s boxes bf set q0 (fun x=>Ys s x < (n:Int)) l' q'∧∀ a,a∈o' ↔ Jd9 s bf af set (· < (n:Int)) a:=by
  intro n
  induction n with
  | zero=>
   refine⟨bf,[],q0,rfl,R10,⟨h.start,fun x hx hm=>⟨fun _ hh=>?_,fun _=>hx⟩,h9,fun id=>⟨.inl,fun hh=>hh.elim _root_.id fun⟨x,hx,_,_,hG⟩=>?_⟩,by omega⟩,fun a=>⟨fun hh=>(M9 hh).elim,fun⟨_,x,hx,_,_,_,hG⟩=>?_⟩⟩
   ·have hh:Ys s x < 0:=hh
    have:=(h.bays (.inl hx)).1; omega
   ·have hG:Ys s x < 0:=hG
    have:=(h.bays (.inl hx)).1; omega
   ·have hG:Ys s x < 0:=hG
    have:=(h.bays hx).1; omega
  | succ n ih=>
   obtain⟨l1,o1,q1,r1,h7,i1,c1⟩:=ih
   obtain⟨l2,o2,q2,r2,h5,i2,c2⟩:=Z23 (F:=F) h h7 hF h8 hd i1 c1
   exact⟨l2,o2,q2,by rw [Jee]; exact G2c _ _ _ _ _ r1 r2,h5,i2,c2⟩
 obtain⟨l1,o1,q1,r1,h7,i1,c1⟩:=outN 40
 have h6:∀ x∈l1,x.Box ∉ set:=fun x hx hm=>(i1.gone x (i1.way.sub x hx) hm).1 hx (h.bays (.inl (i1.way.sub x hx))).2
 have h0:∀ id,id∈q1 ↔ id∈q0∨∃ x∈bf,x.Box=id∧x.Box∈set:=fun id=>by
  rw [i1.mem]
  refine or_congr_right ⟨fun⟨x,hx,e,hm,_⟩=>⟨x,hx,e,hm⟩,fun⟨x,hx,e,hm⟩=>⟨x,hx,e,hm,(h.bays (.inl hx)).2⟩⟩
 have a4:=i1.len
 have inN:∀ n:Nat,∃ l' o' q',G20 F s boxes (ins s bf af set n) (l1,o1,q1)=some (l',o',q')∧G82 s o'∧InI s boxes af set (·∈q1) (fun x=>Ys s x < (n:Int)) l' q'∧∀ a,a∈o' ↔ Jd9 s bf af set ((n:Int)≤·) a:=by
  intro n
  induction n with
  | zero=>
   have none:∀ x∈af,¬ Ys s x < ((0:Nat):Int):=fun x hx=>by have:=(h.bays (.inr hx)).1; omega
   refine⟨l1,o1,q1,rfl,h7,⟨i1.way.turn h h6,fun x hx hm=>⟨fun hh=>(h6 x hh hm).elim,fun hh=>(none x hx hh).elim⟩,i1.nod,fun id=>⟨fun hh=>⟨hh,fun⟨x,hx,_,_,hG⟩=>none x hx hG⟩,fun hh=>hh.1⟩,by omega⟩,fun a=>?_⟩
   rw [c1]
   constructor
   ·rintro⟨a0,x,h1,h2,h3,h4,_⟩
    exact⟨a0,x,h1,h2,h3,h4,(h.bays h1).1⟩
   ·rintro⟨a0,x,h1,h2,h3,h4,_⟩
    exact⟨a0,x,h1,h2,h3,h4,(h.bays h1).2⟩
  | succ n ih=>
   obtain⟨l2,o2,q2,r2,h5,i2,c2⟩:=ih
   obtain⟨l3,o3,q3,r3,a2,i3,c3⟩:=Z73 (F:=F) h h5 hF (fun x hx hm=>by
    by_cases hb:x.Box∈bf.map (·.Box)
    ·obtain⟨y,hy,e⟩:=Mo.1 hb
     exact(h0 _).2 (.inr ⟨y,hy,e,by rw [show y.Box=x.Box from e]; exact hm⟩)
    ·exact(h0 _).2 (.inl (a1 x hx hb))) i2 c2
   exact⟨l3,o3,q3,by rw [Qb6]; exact G2c _ _ _ _ _ r2 r3,a2,i3,c3⟩
 obtain⟨l2,o2,q2,r2,h5,i2,c2⟩:=inN 40
 have hl:l2=af:=i2.way.done h (fun x hx hm=>(i2.come x hx hm).2 (h.bays (.inr hx)).2)
 have ho:o2=[]:=List.eq_nil_iff_forall_not_mem.2 fun a ha=>by
  obtain⟨_,x,hx,_,_,_,hb⟩:=(c2 a).1 ha
  have hb:((40:Nat):Int)≤Ys s x:=hb
  have:=(h.bays hx).2
  omega
 subst hl ho
 refine⟨q2,?_,i2.nod,fun id=>?_⟩
 ·unfold H0e
  exact G2c _ _ _ _ _ r1 r2
 ·rw [i2.mem,h0]
  refine and_congr_right fun _=>not_congr ⟨fun⟨x,hx,e,hm,_⟩=>⟨x,hx,e,hm⟩,fun⟨x,hx,e,hm⟩=>⟨x,hx,e,hm,(h.bays (.inr hx)).2⟩⟩
end
theorem R28 {s:Gh} (h:Hb2 s):H60 s:=⟨h.covs.len,fun x hx=>by
 rcases (h.covs.each x hx).rows with e | e <;> rw [e] <;> simp⟩
theorem Ha9.colIn {s:Gh} {boxes:List Box} {l:List G1} (h:R5 s boxes l):∀ x∈l,Hb1 s x.Slot:=fun x hx=>by
 obtain⟨b,_,hb,_⟩:=h.each x hx
 exact Gd6 hb
theorem Z38 {F:Nat} {s:Gh} {boxes:List Box} {bf af:List G1} {lf:List Int} (hF:60≤F) (hs:H60 s) (h1:R5 s boxes bf) (h2:R5 s boxes af) (l1:bf.length≤10) (l2:af.length≤10)
  (hL:Z3 F s boxes bf af=some (lf,0)):Gaf F s boxes bf af=some (H0e s bf af lf,0):=by
 refine G28 ?_
 unfold Gaf
 refine Gt hL ?_
 simp only [ne_eq,not_true_eq_false,decide_false,cond_false]
 exact Gt (Z39 hF hs (Ha9.colIn h1) (Ha9.colIn h2) (by omega) (by omega)) (Gm rfl)
def J3c (l:List (List G1)):List G1:=l.getLast?.getD []
theorem Yf0 {s:Gh} {boxes:List Box} {calls:Int} {p:Hfe} (h:Jfc s boxes calls p) (hb:boxes.length≤10) (k:Nat):R5 s boxes (J3c (p.States.take k))∧(J3c (p.States.take k)).length≤10:=by
 unfold J3c
 cases hg:(p.States.take k).getLast? with
 | none=>exact⟨J92,by simp⟩
 | some st=>
  have hm:=List.mem_of_mem_take (List.mem_of_getLast? hg)
  obtain⟨j,hj⟩:=List.mem_iff_getElem?.1 hm
  have:=h.each j st hj
  exact⟨this.right,Nat.le_trans this.len hb⟩
section
variable {α:Type} {f:α→Int}
end
section
variable {κ ν:Type} [DecidableEq κ]
end
theorem Z3a:G13=some true:=by kernel_rfl
def G8d:List Move→Int
 | []=>0
 | x::r=>G80 x+G8d r
theorem Rad (x:Move):0≤G80 x∧G80 x≤1:=by unfold G80; split <;> omega
theorem R1b:∀ l:List Move,0≤G8d l∧G8d l≤(l.length:Int)
 | []=>⟨Int.le_refl _,Int.le_refl _⟩
 | x::r=>by
  have h1:=R1b r
  have h2:=Rad x
  show 0≤G80 x+G8d r∧G80 x+G8d r≤_
  rw [Md]; omega
theorem J35 (x:Move):∀ l:List Move,G8d (l++[x])=G8d l+G80 x
 | []=>by show G80 x+0=0+G80 x; omega
 | y::r=>by
  show G80 y+G8d (r++[x])=G80 y+G8d r+G80 x
  rw [J35 x r]; omega
theorem R45 {l:List Move} (hl:l.length≤1000000):Gca l=some (G8d l):=by
 refine G28 ?_
 unfold Gca
 refine Jg (fun pre r=>r=G8d pre) rfl (fun pre y post r nx e hI h0=>?_) (fun r hI=>Gm hI)
 subst hI
 have h1:=R1b pre
 have hp:pre.length+1≤l.length:=by rw [e]; simp
 refine Zy (fun j=>j=G8d (pre++[y])) (fun K hK=>Hs (fun h=>R2 (by omega) (hK _ ?_)) (fun h=>hK _ ?_)) (fun j hj=>h0 _ hj)
 ·rw [J35]
  rw [Ms,Mk,Mk] at h
  unfold G80
  rw [if_pos h]
 ·rw [J35]
  have h:¬ (y.Kind=2∨y.Kind=3):=fun g=>by
   rw [← Mk (p:=y.Kind=2),← Mk (p:=y.Kind=3),← Ms,h] at g
   cases g
  unfold G80
  rw [if_neg h]; omega
section
variable {s:Gh} {boxes:List Box}
theorem Y64 {β:Type} {Q:β→Prop} {kx:Gc→Option β} {bad:Nat→Int→Gc→Option β}:∀ (ms:List Move) (i:Nat) (m:Gc) (t:St),Good s boxes t→H53 s boxes m t→(0≤m.lifts∧m.lifts+(ms.length:Int)≤1000000) →
  (∀ m' t',G20 0 s boxes ms (J2f t)=some (J2f t')→Good s boxes t'→H53 s boxes m' t'→m'.lifts=m.lifts+G8d ms→Wp (kx m') Q) →
  (G20 0 s boxes ms (J2f t)=none→∀ i e m',e≠0→Wp (bad i e m') Q) →
  Wp (each (fun y43 i43 (s43:Gc) nx43=>
   bnd (G60 s43 y43) fun r49=>
   bif decide (r49.1≠0) then bad i43 r49.1 r49.2 else nx43 r49.2) kx ms i m) Q
 | [],i,m,t,hG,hR,hl,hk,hb=>hk m t rfl hG hR (by show m.lifts=m.lifts+0; omega)
 | x::r,i,m,t,hG,hR,hl,hk,hb=>by
  have h4:=Rad x
  have h5:((x::r).length:Int)=(r.length:Int)+1:=by rw [Md]; omega
  rw [each]
  refine H6 (wp_mono (Z31 hG hR (by omega) x) (fun q hq=>?_))
  rcases hq with ⟨hc,h0,h1,h6⟩ | ⟨hc,h0,he⟩
  ·refine Hs (fun h=>absurd h0 (M1 h)) (fun _=>?_)
   refine Y64 r (i+1) q.2 (nxt t x) (hc.step hG) h1 (by omega) (fun m' t' hr h2 h3 h7=>hk m' t' (H76.2 ⟨hc,hr⟩) h2 h3 ?_) (fun hr=>hb ?_)
   ·show m'.lifts=m.lifts+(G80 x+G8d r)
    omega
   ·rw [G20,if_pos (show Can s boxes (Hc6 (J2f t)) x from hc)]
    exact hr
  ·refine Hs (fun _=>hb ?_ _ _ _ h0) (fun h=>(h0 (by simpa using h)).elim)
   rw [G20,if_neg (show ¬ Can s boxes (Hc6 (J2f t)) x from hc)]
theorem Y8e {m:Gc} {t:St} {l:List Move} (hG:Good s boxes t) (hR:H53 s boxes m t) (hl:0≤m.lifts∧m.lifts+(l.length:Int)≤1000000) :
  Wp (G9d m l) (fun r=>(∃ t',G20 0 s boxes l (J2f t)=some (J2f t')∧r.1=(l.length:Int)∧r.2.1=0∧Good s boxes t'∧H53 s boxes r.2.2 t'∧r.2.2.lifts=m.lifts+G8d l)∨(G20 0 s boxes l (J2f t)=none∧r.2.1≠0)):=by
 unfold G9d
 exact Y64 (bad:=fun i e m'=>some ((i:Int),e,m')) l 0 m t hG hR hl (fun m' t' h1 h2 h3 h4=>Gm (.inl ⟨t',h1,rfl,rfl,h2,h3,h4⟩)) (fun h i e m' he=>Gm (.inr ⟨h,he⟩))
theorem Qa2 {F G:Nat}:∀ (ms:List Move) (st:St3),G20 F s boxes ms st=G20 G s boxes ms st
 | [],_=>rfl
 | m::r,st=>by
  rw [G20,G20]
  by_cases h:Can s boxes (Hc6 st) m
  ·rw [if_pos h,if_pos h]; exact Qa2 r _
  ·rw [if_neg h,if_neg h]
end
def Ra9 (bf:List G1) (x:G1):Bool:=!(bf.any fun z=>decide (z.Box=x.Box))
def G32 (af bf:List G1):List Int:=(af.filter (Ra9 bf)).map (·.Box)
theorem R19 {bf:List G1} {x:G1}:Ra9 bf x=true ↔ x.Box ∉ bf.map (·.Box):=by
 unfold Ra9
 rw [Bool.not_eq_true',← Bool.not_eq_true,List.any_eq_true,Mo]
 exact not_congr ⟨fun⟨y,hy,e⟩=>⟨y,hy,M1 e⟩,fun⟨y,hy,e⟩=>⟨y,hy,M3 e⟩⟩
theorem Gfa {af bf:List G1} {i:Int}:i∈G32 af bf ↔ (∃ x∈af,x.Box=i)∧i ∉ bf.map (·.Box):=by
 unfold G32
 rw [Mo]
 constructor
 ·rintro⟨x,hx,rfl⟩
  exact⟨⟨x,(Mr.1 hx).1,rfl⟩,R19.1 (Mr.1 hx).2⟩
 ·rintro⟨⟨x,hx,rfl⟩,h⟩
  exact⟨x,Mr.2 ⟨hx,R19.2 h⟩,rfl⟩
theorem Qb0 {af bf:List G1} (h:af.Pairwise (fun a b=>a.Box < b.Box)):(G32 af bf).Pairwise (· < ·):=List.pairwise_map.2 (h.filter _)
theorem R4f {l:List G1} {f:G1→Option Bool} {p:G1→Bool} (h:∀ x∈l,f x=some (p x)):J9 l f=some (l.any p):=by
 have e:Qa l f=some (J36 p l):=H82 h
 unfold J9
 exact G28 (Gt e (Gm (by show decide (0≤J36 p l)=_; rw [H40])))
theorem R18 {af bf:List G1} (hl:af.length≤1000):Ro af bf=some (G32 af bf):=by
 refine G28 ?_
 unfold Ro
 refine Jg (fun pre r=>r=G32 pre bf) rfl (fun pre y post r nx e hI h0=>?_) (fun r hI=>Gm hI)
 subst hI
 have hp:pre.length+1≤af.length:=by rw [e]; simp
 have h1:(G32 pre bf).length≤pre.length:=by unfold G32; rw [Mm]; exact Ky _ _
 refine Zy (fun j=>j=G32 (pre++[y]) bf) (fun K hK=>?_) (fun j hj=>h0 _ hj)
 refine Gt (R4f (p:=fun z=>decide (z.Box=y.Box)) (fun x hx=>rfl)) (Hs (fun h=>Rr (Zz (by rw [Mi]; omega) (by omega)) (hK _ ?_)) (fun h=>hK _ ?_))
 ·have h:Ra9 bf y=true:=h
  unfold G32
  rw [List.filter_append,List.map_append,List.filter_cons,if_pos h]; rfl
 ·have h:Ra9 bf y=false:=h
  unfold G32
  rw [List.filter_append,List.map_append,List.filter_cons,if_neg (by rw [h]; decide)]; simp
structure Zc1 (F:Nat) (s:Gh) (boxes:List Box) (bf af:List G1) (lf:List Int):Prop where
 C:G1c s boxes bf af lf
 asc:lf.Pairwise (· < ·)
 bnd:∀ a∈lf,a∈bf.map (·.Box)++af.map (·.Box)
 lift:Z3 F s boxes bf af=some (lf,0)
 call:Gaf F s boxes bf af=some (H0e s bf af lf,0)
 good:Good s boxes ⟨bf,[],G32 af bf⟩
 good2:Good s boxes ⟨af,[],G32 bf af⟩
 run:G20 0 s boxes (H0e s bf af lf) (bf,[],G32 af bf)=some (af,[],G32 bf af)
section
variable {s:Gh} {boxes:List Box} {bf af:List G1} {lf:List Int}
theorem Yda (hb:boxes.length≤10) (h1:R5 s boxes bf) (h2:R5 s boxes af):bf.length+(G32 af bf).length≤10:=by
 have hn:(bf.map (·.Box)++G32 af bf).Nodup:=List.nodup_append.2 ⟨J30 h1.sorted,Y5 (Qb0 h2.sorted),fun a ha b hb e=>by
  subst e
  exact(Gfa.1 hb).2 ha⟩
 have:=hn.length_le_of_subset (l₂:=boxes.map (·.ID)) (fun a ha=>by
  have key:∀ {l:List G1},R5 s boxes l→∀ x∈l,x.Box∈boxes.map (·.ID):=fun {l} h x hx=>by
   obtain⟨b,hb,_⟩:=h.each x hx
   exact Mo.2 ⟨b,Z30 hb,G81 hb⟩
  rcases Mn.1 ha with ha | ha
  ·obtain⟨x,hx,rfl⟩:=Mo.1 ha
   exact key h1 x hx
  ·obtain⟨⟨x,hx,rfl⟩,_⟩:=Gfa.1 ha
   exact key h2 x hx)
 simp only [Mh,Mm] at this
 omega
theorem Jef (hL:J7e s) (hb:boxes.length≤10) (h1:R5 s boxes bf) (h2:R5 s boxes af):Good s boxes ⟨bf,[],G32 af bf⟩:=by
 refine⟨hL,h1,R10,fun k hk=>(M9 hk).elim,fun i hi=>?_,Qb0 h2.sorted,fun i hi=>(Gfa.1 hi).2,Yda hb h1 h2⟩
 obtain⟨⟨x,hx,rfl⟩,_⟩:=Gfa.1 hi
 obtain⟨b,g1,g2,_⟩:=h2.each x hx
 exact⟨b,g1,Y4f g2⟩
theorem Rb3 {F:Nat}:∀ (ms:List Move) (t:St) (st':St3),Good s boxes t→G20 F s boxes ms (J2f t)=some st'→Good s boxes (Hc6 st')
 | [],t,st',hG,h=>by cases h; exact hG
 | m::r,t,st',hG,h=>by
  obtain⟨hc,h⟩:=H76.1 h
  exact Rb3 r (nxt t m) st' ((show Can s boxes t m from hc).step hG) h
theorem Yed {F:Nat} (hC:G1c s boxes bf af lf) (hb:boxes.length≤10):G20 F s boxes (H0e s bf af lf) (bf,[],G32 af bf)=some (af,[],G32 bf af):=by
 have hG:=Jef hC.ship hb hC.bef hC.aft
 have h4:=hG.num
 obtain⟨q',h1,h9,h5⟩:=Y8f (F:=20) (q0:=G32 af bf) hC (by omega) (by show (G32 af bf).length≤20; have h:bf.length+(G32 af bf).length≤10:=h4; omega) (Y5 hG.asc) (fun id hid=>(Gfa.1 hid).2) (fun x hx hn=>Gfa.2 ⟨⟨x,hx,rfl⟩,hn⟩)
 have h6:Good s boxes ⟨af,[],q'⟩:=Rb3 _ ⟨bf,[],G32 af bf⟩ _ hG h1
 have h0:∀ {st:List G1} {a:Int},a ∉ st.map (·.Box)→(Yr st a).2≠true:=fun hn hh=>hn (Qbf.1 hh)
 have e:q'=G32 bf af:=Gfc h6.asc (Qb0 hC.bef.sorted) fun i=>by
  rw [h5]
  constructor
  ·rintro⟨hh,h2⟩
   rcases hh with hh | ⟨x,hx,rfl,hm⟩
   ·obtain⟨⟨x,hx,rfl⟩,h7⟩:=Gfa.1 hh
    refine(h2 ⟨x,hx,rfl,hC.least.seeds af (by simp) x hx fun e3=>h0 h7 ?_⟩).elim
    rw [e3,G64 hC.aft.sorted hx]
   ·exact Gfa.2 ⟨⟨x,hx,rfl⟩,fun h8=>by
     obtain⟨y,hy,ey⟩:=Mo.1 h8
     exact h2 ⟨y,hy,ey,by rw [show y.Box=x.Box from ey]; exact hm⟩⟩
  ·intro hh
   obtain⟨⟨x,hx,rfl⟩,h3⟩:=Gfa.1 hh
   refine⟨.inr ⟨x,hx,rfl,hC.least.seeds bf (by simp) x hx fun e3=>h0 h3 ?_⟩,fun⟨y,hy,ey,_⟩=>h3 (Mo.2 ⟨y,hy,ey⟩)⟩
   rw [← e3,G64 hC.bef.sorted hx]
 subst e
 exact(Qa2 (F:=F) (G:=20) _ _).trans h1
end
theorem Yec {F:Nat} {s:Gh} {boxes:List Box} {calls:Int} {p:Hfe} (hF:60≤F) (hs:Hb2 s) (hb:Gb1 calls boxes) (hp:Jfc s boxes calls p) {k:Nat} {af:List G1} (ha:p.States[k]? = some af) :
  ∃ lf,Zc1 F s boxes (J3c (p.States.take k)) af lf:=by
 have h5:=Q3e hs
 have h3:=hb.len
 have h2:=hp.each _ _ ha
 have h1:=Yf0 hp h3 k
 have h4:af.length≤10:=Nat.le_trans h2.len h3
 obtain⟨⟨lf,e0⟩,el,h0,h6,h7,h8⟩:=Y2a h5 h1.1 h2.right h1.2 h4 hF
 have h9:e0=0:=h0
 subst h9
 have hC:G1c s boxes (J3c (p.States.take k)) af lf:=⟨Jc0 hs,h1.1,h2.right,h1.2,h4,h8⟩
 exact⟨lf,hC,h6,h7,el,Z38 hF (R28 hs) h1.1 h2.right h1.2 h4 el,Jef hC.ship h3 h1.1 h2.right,Jef hC.ship h3 h2.right h1.1,Yed hC h3⟩
end Go.Proofs.YtgcpimpnpcdmmaaGreat
