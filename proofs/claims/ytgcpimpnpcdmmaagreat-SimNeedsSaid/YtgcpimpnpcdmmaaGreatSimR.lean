/-
 One move of a simulator at a time: The moves of a call lead from the state bf to the state af. The moves of a voyage. Playing moves with a simulator;
-/
import Derived.Test.YtgcpimpnpcdmmaaGreatSpecT
import Derived.Test.YtgcpimpnpcdmmaaGreatSimEc
set_option maxRecDepth 100000
set_option linter.unusedVariables false
namespace Go.Proofs.YtgcpimpnpcdmmaaGreat
open Go.RowKit
theorem Z4d (a b:Slot):Z4e a b < 0 ↔ a.G3 < b.G3∨(a.G3=b.G3∧(a.Tier < b.Tier∨(a.Tier=b.Tier∧a.Half < b.Half))):=by
 unfold Z4e
 rw [Qd0,Qd0,Qd0,H50,J8b,H50,J8b,H50,J8b]
 simp [orI]
theorem J7b (a b:G1):Rd1 a b < 0 ↔ a.Slot.Tier < b.Slot.Tier∨(a.Slot.Tier=b.Slot.Tier∧(a.Slot.G3 < b.Slot.G3∨(a.Slot.G3=b.Slot.G3∧a.Slot.Half < b.Slot.Half))):=by
 unfold Rd1
 rw [Qd0,Qd0,H50,J8b,Z4d]
 simp only [orI,Int.lt_irrefl,and_false,or_false]
 omega
theorem Y53:Ydc Rd1 where
 asym x y:=by rw [J7b,J7b]; omega
 ntrans x y z:=by rw [J7b,J7b,J7b]; omega
theorem Qf8:Ydc J95 where
 asym x y:=by unfold J95; rw [H50,H50]; omega
 ntrans x y z:=by unfold J95; rw [H50,H50,H50]; omega
abbrev St3:=List G1×List Int×List Int
def H97 (st:St3):St:=⟨st.1,st.2.1,st.2.2⟩
def H35 (t:St):St3:=(t.l,t.o,t.a)
open Classical in
noncomputable def Yx (F:Nat) (s:Gj) (boxes:List Box):List Move→St3→Option St3
 | [],st=>some st
 | m::r,st=>if Can s boxes (H97 st) m then Yx F s boxes r (H35 (nxt (H97 st) m)) else none
theorem Zz {F:Nat} {s:Gj} {boxes:List Box} {m:Move} {r:List Move} {st st':St3}:Yx F s boxes (m::r) st=some st' ↔ Can s boxes (H97 st) m∧Yx F s boxes r (H35 (nxt (H97 st) m))=some st':=by
 rw [Yx]
 by_cases h:Can s boxes (H97 st) m
 ·rw [if_pos h]; exact⟨fun g=>⟨h,g⟩,fun g=>g.2⟩
 ·rw [if_neg h]; exact⟨fun g=>(nomatch g),fun g=>(h g.1).elim⟩
theorem G45 {F:Nat} {s:Gj} {boxes:List Box}:∀ (a b:List Move) (st st1 st2:St3),Yx F s boxes a st=some st1→Yx F s boxes b st1=some st2→Yx F s boxes (a++b) st=some st2
 | [],b,st,st1,st2,h1,h2=>by
  cases h1
  exact h2
 | m::r,b,st,st1,st2,h1,h2=>by
  obtain⟨hc,h1⟩:=Zz.1 h1
  rw [List.cons_append]
  exact Zz.2 ⟨hc,G45 r b _ st1 st2 h1 h2⟩
theorem Je0 {F:Nat} {s:Gj} {boxes:List Box} {α:Type} {f:α→Move} (I:List α→St3→Prop) {xs:List α} {st:St3} (h0:I [] st)
  (hs:∀ pre x post st,xs=pre++x::post→I pre st→Can s boxes (H97 st) (f x)∧I (pre++[x]) (H35 (nxt (H97 st) (f x)))):∃ st',Yx F s boxes (xs.map f) st=some st'∧I xs st':=by
 have key:∀ (post pre:List α) (st:St3),xs=pre++post→I pre st→∃ st',Yx F s boxes (post.map f) st=some st'∧I xs st':=by
  intro post
  induction post with
  | nil=>intro pre st e hi; rw [List.append_nil] at e; subst e; exact⟨st,rfl,hi⟩
  | cons x post ih=>
   intro pre st e hi
   obtain⟨e1,h1⟩:=hs pre x post st e hi
   obtain⟨st2,e2,h2⟩:=ih (pre++[x]) _ (by rw [e]; simp) h1
   exact⟨st2,by rw [List.map_cons]; exact Zz.2 ⟨e1,e2⟩,h2⟩
 exact key xs [] st rfl h0
theorem Qe0 {k:Int} {l:List Int} (h:l.Nodup) (hk:k ∉ l):(H14 k l).Nodup:=by
 unfold H14
 refine List.nodup_append.2 ⟨h.sublist List.filter_sublist,List.nodup_cons.2 ⟨fun g=>hk (Ms.1 g).1,h.sublist List.filter_sublist⟩,fun a ha b hb e=>?_⟩
 have h1:=M2 (Ms.1 ha).2
 subst e
 rcases Mr.1 hb with rfl | hb
 ·omega
 ·have:=M2 (Ms.1 hb).2
  omega
theorem Z5b {s:Gj} {o:List Int} {k:Nat} (h:Ga0 s o) (hk:k < s.Covers.length):Ga0 s (H14 (k:Int) o):=⟨fun y hy=>by
 rcases G24.1 hy with rfl | hy
 ·omega
 ·exact h.mem y hy,Hf0 h.sorted⟩
theorem Z60 {s:Gj} {o:List Int} {k:Int} (h:Ga0 s o):Ga0 s (H6d k o):=⟨fun y hy=>h.mem y (G25.1 hy).1,Hf3 h.sorted⟩
section
variable {F:Nat} {s:Gj} {boxes:List Box} {l bf af:List G1} {o q set:List Int}
theorem Yba {c:Int} (hk:∃ k:Nat,c=(k:Int)∧k < s.Covers.length) (hu:Q70 s l c) (hn:c ∉ o):Can s boxes (H97 (l,o,q)) (mvC 1 c)∧H35 (nxt (H97 (l,o,q)) (mvC 1 c))=(l,H14 c o,q):=by
 obtain⟨k,rfl,hk⟩:=hk
 exact⟨.inl ⟨rfl,rfl,rfl,by show (0:Int)≤(k:Int); omega,by show (k:Int) < _; omega,hn,hu⟩,by rw [Rd6 rfl]; rfl⟩
theorem Y44 {c:Int} (hk:∃ k:Nat,c=(k:Int)∧k < s.Covers.length) (h0:c∈o):Can s boxes (H97 (l,o,q)) (mvC 4 c)∧H35 (nxt (H97 (l,o,q)) (mvC 4 c))=(l,H6d c o,q):=by
 obtain⟨k,rfl,hk⟩:=hk
 exact⟨.inr (.inl ⟨rfl,rfl,rfl,by show (0:Int)≤(k:Int); omega,by show (k:Int) < _; omega,h0⟩),by rw [Rd3 rfl]; rfl⟩
theorem Yf3 {x:G1} (hx:x∈l) (ho:H5a l x.Slot=[]) (hs:¬ Jc8 s o x.Slot):Can s boxes (H97 (l,o,q)) (mvS 2 x)∧H35 (nxt (H97 (l,o,q)) (mvS 2 x))=(H27 x.Box l,o,H14 x.Box q):=
 ⟨.inr (.inr (.inl ⟨rfl,rfl,hx,ho,hs⟩)),by rw [Rd5 rfl]; rfl⟩
theorem Y6e.can (h:G32 s boxes bf af set) (h2:Y6e s boxes af set l) {x:G1} (hx:x∈af) (hn:x ∉ l) (a3:¬ J33 s o x.Slot)
  (a0:∀ z∈af,z.Slot.G3=x.Slot.G3→z.Slot.Tier < x.Slot.Tier→z∈l) (a4:x.Box∈q):Can s boxes (H97 (l,o,q)) (mvS 3 x)∧H35 (nxt (H97 (l,o,q)) (mvS 3 x))=(H26 x l,o,H6d x.Box q)∧Ja9 l x (H26 x l)∧Y6e s boxes af set (H26 x l):=by
 obtain⟨b,hb,h3,h9⟩:=h.aft.each x hx
 have b1:l.length≤9:=by
  have a5:=G77 h2.sta.right.sorted
  have:=(List.nodup_cons.2 ⟨hn,a5⟩).length_le_of_subset (l₂:=af) (fun y hy=>by
   rcases Mr.1 hy with rfl | hy
   ·exact hx
   ·exact h2.sub y hy)
  have:=h.la
  simp only [Me] at *
  omega
 have h4:x.Box ∉ l.map (·.Box):=fun hm=>by
  obtain⟨y,hy,e⟩:=Mp.1 hm
  have:=Hcb h.aft.sorted (h2.sub y hy) hx e
  exact hn (this ▸ hy)
 have h0:=H4c h2.sta.right.sorted h4
 have h5:¬ Rf6 l x.Slot:=fun⟨y,hy,hm⟩=>by
  have a6:=h2.sub y hy
  have a7:x≠y:=fun e=>hn (e ▸ hy)
  exact absurd hm (Y54 h.aft.apart hx a6 a7)
 have h1:H78 x.Slot (l.map (·.Slot)):=by
  have key:∀ half,below (af.map (·.Slot)) x.Slot half→below (l.map (·.Slot)) x.Slot half:=fun half a8=>by
   obtain⟨z,hz,e⟩:=G78 a8
   exact Mp.2 ⟨z,a0 z hz (by rw [e]) (by rw [e]; show x.Slot.Tier - 1 < x.Slot.Tier; omega),e⟩
  rcases h9 with g | g | ⟨g0,g1,g2⟩
  ·exact .inl g
  ·exact .inr (.inl (key _ g))
  ·exact .inr (.inr ⟨g0,key _ g1,key _ g2⟩)
 have h6:Rf9 s boxes (H26 x l) x.Slot:=fun m c e1 e2=>by
  have hq:=H3a h0 h2.sta.right.sorted h4
  have h7:∀ y∈H26 x l,y∈af:=fun y hy=>by
   rcases Mr.1 ((G37 h0).mem_iff.1 hy) with rfl | hy
   ·exact hx
   ·exact h2.sub y hy
  have:=h.aft.fits m c e2
  unfold J3b at this ⊢
  have a1:=Qbd (boxes:=boxes) (m:=(m:Int)) (half:=1) h.aft.sorted hq h7
  have a2:=Qbd (boxes:=boxes) (m:=(m:Int)) (half:=2) h.aft.sorted hq h7
  rcases this with h | ⟨h,h'⟩
  ·exact .inl h
  ·exact .inr ⟨by omega,by omega⟩
 have h8:∀ y,y∈H26 x l ↔ y=x∨y∈l:=fun y=>by rw [(G37 h0).mem_iff,Mr]
 have b0:(H26 x l).length=l.length+1:=by
  have:=(G37 h0).length_eq
  simpa using this
 refine⟨.inr (.inr (.inr ⟨rfl,rfl,a4,b,hb,h3,a3,h5,h1,h6⟩)),by rw [Rd4 rfl]; rfl,h0,⟨⟨h2.sta.ship,Q1e h2.sta.right hb h3 h5 h1 h0 h4 h6,by omega⟩,fun y hy=>?_,fun y hy a9=>(h8 y).2 (.inr (h2.keep y hy a9))⟩⟩
 rcases (h8 y).1 hy with rfl | hy
 ·exact hx
 ·exact h2.sub y hy
structure R21 (s:Gj) (boxes:List Box) (bf:List G1) (set q0:List Int) (G:G1→Prop) (l:List G1) (q:List Int):Prop where
 way:R84 s boxes bf set l
 gone:∀ x∈bf,x.Box∈set→(x∈l ↔ ¬ G x)
 nod:q.Nodup
 mem:∀ id,id∈q ↔ id∈q0∨∃ x∈bf,x.Box=id∧x.Box∈set∧G x
 len:q.length≤q0.length+bf.length
theorem R21.congr {q0:List Int} {G G':G1→Prop} (h:R21 s boxes bf set q0 G l q) (hg:∀ x∈bf,x.Box∈set→(G x ↔ G' x)):R21 s boxes bf set q0 G' l q:=
 ⟨h.way,fun x hx hm=>by rw [h.gone x hx hm,hg x hx hm],h.nod,fun id=>by
  rw [h.mem]
  constructor
  ·rintro(h | ⟨x,hx,e,hm,hG⟩)
   ·exact .inl h
   ·exact .inr ⟨x,hx,e,hm,(hg x hx hm).1 hG⟩
  ·rintro(h | ⟨x,hx,e,hm,hG⟩)
   ·exact .inl h
   ·exact .inr ⟨x,hx,e,hm,(hg x hx hm).2 hG⟩,h.len⟩
theorem R3a (h:G32 s boxes bf af set) (hO:Ga0 s o) {q0:List Int} (a8:q0.length≤20) (hd:∀ id∈q0,id ∉ bf.map (·.Box)) {G:G1→Prop} (hI:R21 s boxes bf set q0 G l q) (xs:List G1) (h7:xs.Nodup)
  (hb:∀ x∈xs,x∈bf∧x.Box∈set∧¬ G x) (a5:∀ pre x post,xs=pre++x::post→∀ y∈bf,y.Box∈set→H62 y.Slot x.Slot→G y∨y∈pre) (hs:∀ x∈xs,¬ Jc8 s o x.Slot) :
  ∃ l' q',Yx F s boxes (xs.map (mvS 2)) (l,o,q)=some (l',o,q')∧R21 s boxes bf set q0 (fun x=>G x∨x∈xs) l' q':=by
 have a9:=h.lb
 refine Exists.elim (Je0 (F:=F) (s:=s) (boxes:=boxes) (f:=mvS 2) (fun pre st=>st.2.1=o∧R21 s boxes bf set q0 (fun x=>G x∨x∈pre) st.1 st.2.2) (xs:=xs) (st:=(l,o,q)) ⟨rfl,hI.congr (fun x _ _=>by simp)⟩ (fun pre x post st e hJ=>?_)) (fun st' a6=>?_)
 rotate_left
 ·obtain⟨e,e2,hr⟩:=a6
  refine⟨st'.1,st'.2.2,?_,hr⟩
  rw [e,← e2]
 ·obtain⟨j1,j2⟩:=hJ
  have hx:x∈xs:=by rw [e]; simp
  obtain⟨b1,b2,b3⟩:=hb x hx
  have h8:x ∉ pre:=fun hm=>by
   rw [e,List.nodup_append] at h7
   exact h7.2.2 x hm x (by simp) rfl
  have h9:x∈st.1:=(j2.gone x b1 b2).2 fun hh=>hh.elim b3 h8
  have ho:H5a st.1 x.Slot=[]:=List.eq_nil_iff_forall_not_mem.2 fun b hb=>by
   obtain⟨y,hy,_,a0⟩:=Gfc.1 hb
   have h2:=j2.way.sub y hy
   have h0:=h.over b1 h2 b2 a0
   exact(j2.gone y h2 h0).1 hy (a5 pre x post e y h2 h0 a0)
  have b0:=j2.len
  obtain⟨p1,p2,ep⟩:=List.append_of_mem h9
  have a1:=j2.way.sta.right.sorted
  have h1:H27 x.Box st.1=p1++p2:=by rw [ep] at a1 ⊢; exact J89 a1
  obtain⟨st1,st2,st3⟩:=st
  have j1:st2=o:=j1
  subst j1
  obtain⟨hc,es⟩:=Yf3 (boxes:=boxes) (q:=st3) h9 ho (hs x hx)
  refine⟨hc,?_⟩
  rw [es]
  have a2:x.Box ∉ st3:=fun hm=>by
   rcases (j2.mem x.Box).1 hm with hm | ⟨y,hy,ey,h0,hG⟩
   ·exact hd _ hm (Mp.2 ⟨x,b1,rfl⟩)
   ·have:=Hcb h.bef.sorted hy b1 ey
    subst this
    exact hG.elim b3 h8
  have h1:H27 x.Box st1=p1++p2:=h1
  have ep:st1=p1++x::p2:=ep
  refine⟨rfl,?_⟩
  show R21 s boxes bf set q0 _ (H27 x.Box st1) (H14 x.Box st3)
  rw [h1]
  have h6:∀ y,y∈st1 ↔ y=x∨y∈p1++p2:=fun y=>by
   rw [ep]
   simp only [Mo,Mr]
   constructor
   ·rintro(h | h | h)
    ·exact .inr (.inl h)
    ·exact .inl h
    ·exact .inr (.inr h)
   ·rintro(h | h | h)
    ·exact .inr (.inl h)
    ·exact .inl h
    ·exact .inr (.inr h)
  have a7:x ∉ p1++p2:=fun hm=>by
   have hn:=G77 j2.way.sta.right.sorted
   have hn:st1.Nodup:=hn
   rw [ep] at hn
   have:=(List.nodup_cons.1 (List.perm_middle.nodup_iff.1 hn)).1
   exact this hm
  have a3:∀ id,id∈H14 x.Box st3 ↔ id∈q0∨∃ y∈bf,y.Box=id∧y.Box∈set∧(G y∨y∈pre++[x]):=fun id=>by
   rw [G24,j2.mem]
   constructor
   ·rintro(rfl | h | ⟨y,hy,ey,h0,hG⟩)
    ·exact .inr ⟨x,b1,rfl,b2,.inr (by simp)⟩
    ·exact .inl h
    ·exact .inr ⟨y,hy,ey,h0,hG.elim .inl (fun h5=>.inr (Mo.2 (.inl h5)))⟩
   ·rintro(h | ⟨y,hy,ey,h0,hG | hG⟩)
    ·exact .inr (.inl h)
    ·exact .inr (.inr ⟨y,hy,ey,h0,.inl hG⟩)
    ·rcases Mo.1 hG with hG | hG
     ·exact .inr (.inr ⟨y,hy,ey,h0,.inr hG⟩)
     ·rw [Mq] at hG; subst hG; exact .inl ey.symm
  refine⟨j2.way.take ep b2 ho,fun y hy hm=>?_,Qe0 j2.nod a2,a3,?_⟩
  ·have hg:=j2.gone y hy hm
   have e9:y∈pre++[x] ↔ y∈pre∨y=x:=by rw [Mo,Mq]
   show y∈p1++p2 ↔ ¬ (G y∨y∈pre++[x])
   rw [e9]
   constructor
   ·intro a4
    have h3:=hg.1 ((h6 y).2 (.inr a4))
    rintro(h4 | h4 | h4)
    ·exact h3 (.inl h4)
    ·exact h3 (.inr h4)
    ·exact a7 (h4 ▸ a4)
   ·intro h3
    rcases (h6 y).1 (hg.2 fun h4=>h3 (h4.elim .inl (fun h5=>.inr (.inl h5)))) with h4 | h4
    ·exact(h3 (.inr (.inr h4))).elim
    ·exact h4
  ·have:=(Qe0 j2.nod a2).length_le_of_subset (l₂:=q0++bf.map (·.Box)) (fun a ha=>by
    rcases (a3 a).1 ha with ha | ⟨y,hy,ey,_⟩
    ·exact Mo.2 (.inl ha)
    ·exact Mo.2 (.inr (Mp.2 ⟨y,hy,ey⟩)))
   simpa using this
theorem Y56 (h:Sta s boxes l) (hO:Ga0 s o) (hF:20≤F) (ks:List Int) (h0:ks.Nodup) (hk:∀ k∈ks,∃ j:Nat,k=(j:Int)∧j < s.Covers.length∧Q70 s l (j:Int)∧(j:Int) ∉ o) :
  ∃ o',Yx F s boxes (ks.map (mvC 1)) (l,o,q)=some (l,o',q)∧Ga0 s o'∧∀ a,a∈o' ↔ a∈o∨a∈ks:=by
 refine Exists.elim (Je0 (F:=F) (s:=s) (boxes:=boxes) (f:=mvC 1) (fun pre st=>st.1=l∧st.2.2=q∧Ga0 s st.2.1∧∀ a,a∈st.2.1 ↔ a∈o∨a∈pre) (xs:=ks) (st:=(l,o,q)) ⟨rfl,rfl,hO,fun a=>by simp⟩ (fun pre x post st e hJ=>?_)) (fun st' h5=>?_)
 rotate_left
 ·obtain⟨e,h1,h2,h3,h4⟩:=h5
  refine⟨st'.2.1,?_,h3,h4⟩
  rw [e,← h1,← h2]
 ·obtain⟨st1,st2,st3⟩:=st
  obtain⟨j1,j2,j3,j4⟩:=hJ
  have j1:st1=l:=j1
  have j2:st3=q:=j2
  subst j1 j2
  obtain⟨j,rfl,hj,hu,hn⟩:=hk x (by rw [e]; simp)
  have h6:(j:Int) ∉ pre:=fun hm=>by
   rw [e,List.nodup_append] at h0
   exact h0.2.2 _ hm _ (by simp) rfl
  obtain⟨hc,es⟩:=Yba (boxes:=boxes) (l:=st1) (o:=st2) (q:=st3) ⟨j,rfl,hj⟩ hu (fun hh=>((j4 _).1 hh).elim hn h6)
  refine⟨hc,?_⟩
  rw [es]
  refine⟨rfl,rfl,Z5b j3 hj,fun a=>?_⟩
  show a∈H14 (j:Int) st2 ↔ _
  rw [G24,j4,Mo,Mq]
  constructor
  ·rintro(h | h | h)
   ·exact .inr (.inr h)
   ·exact .inl h
   ·exact .inr (.inl h)
  ·rintro(h | h | h)
   ·exact .inr (.inl h)
   ·exact .inr (.inr h)
   ·exact .inl h
theorem Rec (h:Sta s boxes l) (hO:Ga0 s o) (hF:20≤F) (ks:List Int) (h0:ks.Nodup) (hk:∀ k∈ks,∃ j:Nat,k=(j:Int)∧j < s.Covers.length∧(j:Int)∈o) :
  ∃ o',Yx F s boxes (ks.map (mvC 4)) (l,o,q)=some (l,o',q)∧Ga0 s o'∧∀ a,a∈o' ↔ a∈o∧a ∉ ks:=by
 refine Exists.elim (Je0 (F:=F) (s:=s) (boxes:=boxes) (f:=mvC 4) (fun pre st=>st.1=l∧st.2.2=q∧Ga0 s st.2.1∧∀ a,a∈st.2.1 ↔ a∈o∧a ∉ pre) (xs:=ks) (st:=(l,o,q)) ⟨rfl,rfl,hO,fun a=>by simp⟩ (fun pre x post st e hJ=>?_)) (fun st' h5=>?_)
 rotate_left
 ·obtain⟨e,h1,h2,h3,h4⟩:=h5
  refine⟨st'.2.1,?_,h3,h4⟩
  rw [e,← h1,← h2]
 ·obtain⟨st1,st2,st3⟩:=st
  obtain⟨j1,j2,j3,j4⟩:=hJ
  have j1:st1=l:=j1
  have j2:st3=q:=j2
  subst j1 j2
  obtain⟨j,rfl,hj,h6⟩:=hk x (by rw [e]; simp)
  have h7:(j:Int) ∉ pre:=fun hm=>by
   rw [e,List.nodup_append] at h0
   exact h0.2.2 _ hm _ (by simp) rfl
  obtain⟨hc,es⟩:=Y44 (boxes:=boxes) (l:=st1) (o:=st2) (q:=st3) ⟨j,rfl,hj⟩ ((j4 _).2 ⟨h6,h7⟩)
  refine⟨hc,?_⟩
  rw [es]
  refine⟨rfl,rfl,Z60 j3,fun a=>?_⟩
  show a∈H6d (j:Int) st2 ↔ _
  rw [G25,j4,Mo,Mq]
  exact⟨fun⟨⟨a,b⟩,c⟩=>⟨a,fun h=>h.elim b c⟩,fun⟨a,b⟩=>⟨⟨a,fun h=>b (.inl h)⟩,fun h=>b (.inr h)⟩⟩
structure InI (s:Gj) (boxes:List Box) (af:List G1) (set:List Int) (Q0:Int→Prop) (G:G1→Prop) (l:List G1) (q:List Int):Prop where
 way:Y6e s boxes af set l
 come:∀ x∈af,x.Box∈set→(x∈l ↔ G x)
 nod:q.Nodup
 mem:∀ id,id∈q ↔ Q0 id∧¬ ∃ x∈af,x.Box=id∧x.Box∈set∧G x
 len:q.length≤100
theorem InI.congr {Q0:Int→Prop} {G G':G1→Prop} (h:InI s boxes af set Q0 G l q) (hg:∀ x∈af,x.Box∈set→(G x ↔ G' x)):InI s boxes af set Q0 G' l q:=
 ⟨h.way,fun x hx hm=>by rw [h.come x hx hm,hg x hx hm],h.nod,fun id=>by
  rw [h.mem]
  refine and_congr_right fun _=>not_congr ⟨?_,?_⟩
  ·rintro⟨x,hx,e,hm,hG⟩
   exact⟨x,hx,e,hm,(hg x hx hm).1 hG⟩
  ·rintro⟨x,hx,e,hm,hG⟩
   exact⟨x,hx,e,hm,(hg x hx hm).2 hG⟩,h.len⟩
theorem Re1 (h:G32 s boxes bf af set) (hO:Ga0 s o) (hF:20≤F) {Q0:Int→Prop} (hQ:∀ x∈af,x.Box∈set→Q0 x.Box) {G:G1→Prop} (hI:InI s boxes af set Q0 G l q) (xs:List G1) (h2:xs.Nodup)
  (hb:∀ x∈xs,x∈af∧x.Box∈set∧¬ G x) (h4:∀ pre x post,xs=pre++x::post→∀ z∈af,z.Box∈set→z.Slot.G3=x.Slot.G3→z.Slot.Tier < x.Slot.Tier→G z∨z∈pre) (hs:∀ x∈xs,¬ J33 s o x.Slot) :
  ∃ l' q',Yx F s boxes (xs.map (mvS 3)) (l,o,q)=some (l',o,q')∧InI s boxes af set Q0 (fun x=>G x∨x∈xs) l' q':=by
 refine Exists.elim (Je0 (F:=F) (s:=s) (boxes:=boxes) (f:=mvS 3) (fun pre st=>st.2.1=o∧InI s boxes af set Q0 (fun x=>G x∨x∈pre) st.1 st.2.2) (xs:=xs) (st:=(l,o,q)) ⟨rfl,hI.congr (fun x _ _=>by simp)⟩ (fun pre x post st e hJ=>?_)) (fun st' h6=>?_)
 rotate_left
 ·obtain⟨e,e2,hr⟩:=h6
  refine⟨st'.1,st'.2.2,?_,hr⟩
  rw [e,← e2]
 ·obtain⟨st1,st2,st3⟩:=st
  obtain⟨j1,j2⟩:=hJ
  have j1:st2=o:=j1
  subst j1
  have j2:InI s boxes af set Q0 (fun x=>G x∨x∈pre) st1 st3:=j2
  have hx:x∈xs:=by rw [e]; simp
  obtain⟨b1,b2,b3⟩:=hb x hx
  have h3:x ∉ pre:=fun hm=>by
   rw [e,List.nodup_append] at h2
   exact h2.2.2 x hm x (by simp) rfl
  have h8:x ∉ st1:=fun hm=>((j2.come x b1 b2).1 hm).elim b3 h3
  have h9:x.Box∈st3:=(j2.mem x.Box).2 ⟨hQ x b1 b2,fun⟨y,hy,ey,h0,hG⟩=>by
   have:=Hcb h.aft.sorted hy b1 ey
   subst this
   exact hG.elim b3 h3⟩
  obtain⟨hc,es,h7,hw⟩:=j2.way.can h b1 h8 (hs x hx) (fun z hz a0 a1=>by
   by_cases h1:z.Box∈set
   ·exact(j2.come z hz h1).2 (h4 pre x post e z hz h1 a0 a1)
   ·exact j2.way.keep z hz h1) h9
  refine⟨hc,?_⟩
  rw [es]
  have a2:(H6d x.Box st3).length≤100:=Nat.le_trans (Ky _ _) j2.len
  refine⟨rfl,⟨hw,fun y hy hm=>?_,j2.nod.sublist List.filter_sublist,fun id=>?_,a2⟩⟩
  ·show y∈H26 x st1 ↔ (G y∨y∈pre++[x])
   rw [(G37 h7).mem_iff,Mr,j2.come y hy hm,Mo,Mq]
   constructor
   ·rintro(h | h | h)
    ·exact .inr (.inr h)
    ·exact .inl h
    ·exact .inr (.inl h)
   ·rintro(h | h | h)
    ·exact .inr (.inl h)
    ·exact .inr (.inr h)
    ·exact .inl h
  ·show id∈H6d x.Box st3 ↔ _
   rw [G25,j2.mem]
   constructor
   ·rintro⟨⟨g1,g2⟩,g3⟩
    refine⟨g1,fun⟨y,hy,ey,h0,hG⟩=>?_⟩
    rcases hG with hG | hG
    ·exact g2 ⟨y,hy,ey,h0,.inl hG⟩
    ·rcases Mo.1 hG with hG | hG
     ·exact g2 ⟨y,hy,ey,h0,.inr hG⟩
     ·rw [Mq] at hG; subst hG; exact g3 ey.symm
   ·rintro⟨g1,g2⟩
    exact⟨⟨g1,fun⟨y,hy,ey,h0,hG⟩=>g2 ⟨y,hy,ey,h0,hG.elim .inl (fun h5=>.inr (Mo.2 (.inl h5)))⟩⟩,fun e2=>g2 ⟨x,b1,e2.symm,b2,.inr (by simp)⟩⟩
end
section
variable {F:Nat} {s:Gj} {boxes:List Box} {l bf af:List G1} {o q q0 set:List Int}
def Zb (s:Gj) (x:G1):Int:=(G26 s x.Slot).Bay
def Q08 (s:Gj) (bf af:List G1) (set:List Int) (P:Int→Prop) (a:Int):Prop:=0≤a∧∃ x,(x∈bf∨x∈af)∧x.Box∈set∧(G26 s x.Slot).Deck=false∧H16 s x=a∧P (Zb s x)
theorem J8a {c:G3} {k:Nat} (h:Jy s c=(k:Int)):k < s.Covers.length∧∃ x,s.Covers[k]? = some x∧x.Bay=c.Bay:=by
 unfold Jy at h
 rcases H3b (fun x=>Hf4 x c) s.Covers with ⟨h1,_⟩ | ⟨m,x,h1,h2,h3,_⟩
 ·rw [h1] at h; omega
 ·have:m=k:=by omega
  subst this
  have h3:Hf4 x c=true:=h3
  unfold Hf4 at h3
  rw [Mk] at h3
  exact⟨(M6 h2).1,x,h2,M2 h3.1⟩
theorem Jf3 {c d:G3} (h0:0≤Jy s c) (h:Jy s c=Jy s d):c.Bay=d.Bay:=by
 obtain⟨k,hk⟩:∃ k:Nat,Jy s c=(k:Int):=⟨(Jy s c).toNat,by omega⟩
 obtain⟨_,x,hx,e1⟩:=J8a hk
 obtain⟨_,y,hy,e2⟩:=J8a (h ▸ hk)
 rw [hx] at hy; cases hy
 exact e1.symm.trans e2
theorem Qd5 {l:List G1} {n:Int} {d:Bool} {x:G1}:x∈G01 s l set n d ↔ x∈l∧Zb s x=n∧(G26 s x.Slot).Deck=d∧x.Box∈set:=by
 rw [Gfb,Ha0]
 rfl
theorem J5c {n a:Int}:a∈G9d s bf af set n ↔ Q08 s bf af set (·=n) a:=by
 rw [Q5e]
 unfold Q08
 refine and_congr_right fun _=>⟨?_,?_⟩
 ·rintro⟨x,hx,hp,e⟩
  obtain⟨h1,h2,h3⟩:=Ha0.1 hp
  exact⟨x,hx,h3,h2,e,h1⟩
 ·rintro⟨x,hx,h3,h2,e,h1⟩
  exact⟨x,hx,Ha0.2 ⟨h1,h2,h3⟩,e⟩
theorem Jf4 {x y:Slot} (e:y.G3=x.G3):G26 s y=G26 s x:=by
 unfold G26
 rw [e]
theorem Z17 {x:Slot} (h:Hd3 s x):∃ m:Nat,x.G3=(m:Int)∧s.Columns[m]? = some (G26 s x):=by
 obtain⟨m,c,h1,h2⟩:=h
 exact⟨m,h1,by rw [H61 h1 h2]; exact h2⟩
theorem G32.col1 (h:G32 s boxes bf af set) {x:G1} (hx:x∈bf):∃ m:Nat,x.Slot.G3=(m:Int)∧s.Columns[m]? = some (G26 s x.Slot):=by
 obtain⟨b,_,h1,_⟩:=h.bef.each x hx
 exact Z17 (Ged h1)
theorem G32.col2 (h:G32 s boxes bf af set) {x:G1} (hx:x∈af):∃ m:Nat,x.Slot.G3=(m:Int)∧s.Columns[m]? = some (G26 s x.Slot):=by
 obtain⟨b,_,h1,_⟩:=h.aft.each x hx
 exact Z17 (Ged h1)
theorem G32.bays (h:G32 s boxes bf af set) {x:G1} (hx:x∈bf∨x∈af):0≤Zb s x∧Zb s x < 40:=by
 have hc:∃ m:Nat,x.Slot.G3=(m:Int)∧s.Columns[m]? = some (G26 s x.Slot):=hx.elim h.col1 h.col2
 obtain⟨m,_,hc⟩:=hc
 obtain⟨c0,hh,h0,_,e⟩:=h.ship.each _ (M9 hc)
 unfold Zb
 have:=h0.bay
 rw [e]
 show 0≤c0.Bay∧c0.Bay < 40
 omega
theorem R59 {D pre post:List G1} {x y:G1} (hD:D.Pairwise (Q75 J95)) (e:D=pre++x::post) (hy:y∈D) (ht:x.Slot.Tier < y.Slot.Tier):y∈pre:=by
 rw [e] at hy hD
 rcases Mo.1 hy with hy | hy
 ·exact hy
 ·rcases Mr.1 hy with rfl | hy
  ·omega
  ·have:=(List.pairwise_cons.1 (List.pairwise_append.1 hD).2.1).1 y hy
   unfold Q75 J95 at this
   rw [H50] at this
   exact(this ht).elim
theorem R55 {D pre post:List G1} {x y:G1} (hD:D.Pairwise (Q75 Rd1)) (e:D=pre++x::post) (hy:y∈D) (ht:y.Slot.Tier < x.Slot.Tier):y∈pre:=by
 rw [e] at hy hD
 rcases Mo.1 hy with hy | hy
 ·exact hy
 ·rcases Mr.1 hy with rfl | hy
  ·omega
  ·have:=(List.pairwise_cons.1 (List.pairwise_append.1 hD).2.1).1 y hy
   unfold Q75 at this
   rw [J7b] at this
   exact(this (.inl ht)).elim
theorem Jbe {l:List G1} (hs:l.Pairwise (fun a b=>a.Box < b.Box)) {n:Int} {d:Bool}:(G01 s l set n d).Nodup:=by
 unfold G01
 exact(H39 _ _).nodup_iff.2 ((G77 hs).sublist List.filter_sublist)
theorem Q5b {l:List G1} {n:Int} {d:Bool}:(G01 s l set n d).Pairwise (Q75 Rd1):=H5e Y53 _
theorem Z52 (h:G32 s boxes bf af set) (hO:Ga0 s o) (hF:20≤F) (a1:q0.length≤20) (hd:∀ id∈q0,id ∉ bf.map (·.Box)) {n:Nat} (hI:R21 s boxes bf set q0 (fun x=>Zb s x < (n:Int)) l q) (hc:∀ a,a∈o ↔ Q08 s bf af set (· < (n:Int)) a) :
  ∃ l' o' q',Yx F s boxes (J58 s bf af set (n:Int)) (l,o,q)=some (l',o',q')∧Ga0 s o'∧R21 s boxes bf set q0 (fun x=>Zb s x < ((n+1:Nat):Int)) l' q'∧∀ a,a∈o' ↔ Q08 s bf af set (· < ((n+1:Nat):Int)) a:=by
 have over_bay:∀ {d:Bool} {x y:G1},x∈bf→y∈bf→x.Box∈set→Zb s x=(n:Int)→(G26 s x.Slot).Deck=d→H62 y.Slot x.Slot→y∈G01 s bf set (n:Int) d:=fun {d x y} hx hy hm hb a4 ho=>Qd5.2 ⟨hy,by unfold Zb at hb ⊢; rw [Jf4 ho.1]; exact hb,by rw [Jf4 ho.1]; exact a4,h.over hx hy hm ho⟩
 have mD:∀ {d:Bool} {x:G1},x∈H6c J95 (G01 s bf set (n:Int) d) ↔ x∈bf∧Zb s x=(n:Int)∧(G26 s x.Slot).Deck=d∧x.Box∈set:=fun {d x}=>by rw [H9e,Qd5]
 have nD:∀ d:Bool,(H6c J95 (G01 s bf set (n:Int) d)).Nodup:=fun d=>(H39 _ _).nodup_iff.2 (Jbe h.bef.sorted)
 -- the deck
 obtain⟨l1,q1,r1,i1⟩:=R3a (F:=F) h hO a1 hd hI (H6c J95 (G01 s bf set (n:Int) true)) (nD true) (fun x hx=>by
  obtain⟨a,b,c,d⟩:=mD.1 hx
  exact⟨a,d,by show ¬ Zb s x < (n:Int); omega⟩) (fun pre x post e y hy h7 ho=>by
  obtain⟨a,b,c,d⟩:=mD.1 (show x∈H6c J95 (G01 s bf set (n:Int) true) by rw [e]; simp)
  exact .inr (R59 (H5e Qf8 _) e (H9e.2 (over_bay a hy d b c ho)) ho.2.1)) (fun x hx=>by
  obtain⟨a,b,c,d⟩:=mD.1 hx
  rintro⟨m,c',e1,e2,e3,_⟩
  rw [H61 e1 e2,e3] at c
  cases c)
 -- the covers
 obtain⟨o2,r2,a2,a3⟩:=Y56 (F:=F) (q:=q1) i1.way.sta hO hF (G9d s bf af set (n:Int)) Ja0 (fun k hk=>by
  obtain⟨k0,x,hx,h8,a5,a6,h9⟩:=J5c.1 hk
  obtain⟨j,rfl⟩:∃ j:Nat,k=(j:Int):=⟨k.toNat,by omega⟩
  obtain⟨m,em,ec⟩:∃ m:Nat,x.Slot.G3=(m:Int)∧s.Columns[m]? = some (G26 s x.Slot):=hx.elim h.col1 h.col2
  have a7:Jy s (G26 s x.Slot)=(j:Int):=a6
  obtain⟨a8,cv,b0,b1⟩:=J8a a7
  refine⟨j,rfl,a8,fun y hy m1 c1 e1 e2 e3 e4=>?_,fun a9=>?_⟩
  ·have h0:=i1.way.sub y hy
   have h7:=h.upon hx (.inl h0) h8 ⟨m,_,m1,c1,em,ec,e1,e2,a5,e3,by omega,by omega⟩
   have h6:=H61 e1 e2
   refine(i1.gone y h0 h7).1 hy (.inr (mD.2 ⟨h0,?_,by rw [h6]; exact e3,h7⟩))
   unfold Zb at h9 ⊢
   rw [h6,← h9]
   exact(Jf3 (s:=s) (c:=G26 s x.Slot) (d:=c1) (by omega) (by omega)).symm
  ·obtain⟨_,y,_,_,_,h6,h0⟩:=(hc _).1 a9
   have h6:Jy s (G26 s y.Slot)=(j:Int):=h6
   have:=Jf3 (s:=s) (c:=G26 s x.Slot) (d:=G26 s y.Slot) (by omega) (by omega)
   unfold Zb at h9 h0
   omega)
 -- the hold
 obtain⟨l3,q3,r3,i3⟩:=R3a (F:=F) h a2 a1 hd i1 (H6c J95 (G01 s bf set (n:Int) false)) (nD false) (fun x hx=>by
  obtain⟨a,b,c,d⟩:=mD.1 hx
  refine⟨a,d,fun hh=>hh.elim (fun h=>by have h:Zb s x < (n:Int):=h; omega) (fun h=>?_)⟩
  rw [(mD.1 h).2.2.1] at c
  cases c) (fun pre x post e y hy h7 ho=>by
  obtain⟨a,b,c,d⟩:=mD.1 (show x∈H6c J95 (G01 s bf set (n:Int) false) by rw [e]; simp)
  exact .inr (R59 (H5e Qf8 _) e (H9e.2 (over_bay a hy d b c ho)) ho.2.1)) (fun x hx=>by
  obtain⟨a,b,c,d⟩:=mD.1 hx
  rintro⟨m,c',e1,e2,e3,e4,e5⟩
  exact e5 ((a3 _).2 (.inr (J5c.2 ⟨e4,x,.inl a,d,c,by unfold H16; rw [H61 e1 e2],b⟩))))
 refine⟨l3,o2,q3,?_,a2,i3.congr (fun x hx h8=>?_),fun a=>?_⟩
 ·unfold J58
  exact G45 _ _ _ _ _ (G45 _ _ _ _ _ r1 r2) r3
 ·rw [mD,mD]
  constructor
  ·rintro((h | h) | h)
   ·omega
   ·omega
   ·omega
  ·intro hh
   by_cases hb:Zb s x < (n:Int)
   ·exact .inl (.inl hb)
   ·cases b2:(G26 s x.Slot).Deck with
    | true=>exact .inl (.inr ⟨hx,by omega,rfl,h8⟩)
    | false=>exact .inr ⟨hx,by omega,rfl,h8⟩
 ·rw [a3,hc,J5c]
  constructor
  ·rintro(⟨a0,x,h1,h2,h3,h4,h5⟩ | ⟨a0,x,h1,h2,h3,h4,h5⟩)
   ·exact⟨a0,x,h1,h2,h3,h4,by omega⟩
   ·exact⟨a0,x,h1,h2,h3,h4,by omega⟩
  ·rintro⟨a0,x,h1,h2,h3,h4,h5⟩
   by_cases hb:Zb s x < (n:Int)
   ·exact .inl ⟨a0,x,h1,h2,h3,h4,hb⟩
   ·exact .inr ⟨a0,x,h1,h2,h3,h4,by omega⟩
theorem Za3 (h:G32 s boxes bf af set) (hO:Ga0 s o) (hF:20≤F) {Q0:Int→Prop} (hQ:∀ x∈af,x.Box∈set→Q0 x.Box) {n:Nat} (hI:InI s boxes af set Q0 (fun x=>Zb s x < (n:Int)) l q) (hc:∀ a,a∈o ↔ Q08 s bf af set ((n:Int)≤·) a) :
  ∃ l' o' q',Yx F s boxes (Q67 s bf af set (n:Int)) (l,o,q)=some (l',o',q')∧Ga0 s o'∧InI s boxes af set Q0 (fun x=>Zb s x < ((n+1:Nat):Int)) l' q'∧∀ a,a∈o' ↔ Q08 s bf af set (((n+1:Nat):Int)≤·) a:=by
 have mD:∀ {d:Bool} {x:G1},x∈G01 s af set (n:Int) d ↔ x∈af∧Zb s x=(n:Int)∧(G26 s x.Slot).Deck=d∧x.Box∈set:=Qd5
 have same_bay:∀ {d:Bool} {x z:G1},x∈G01 s af set (n:Int) d→z∈af→z.Box∈set→z.Slot.G3=x.Slot.G3→z∈G01 s af set (n:Int) d:=fun {d x z} hx hz h6 e=>by
  obtain⟨a,b,c,d'⟩:=mD.1 hx
  exact mD.2 ⟨hz,by unfold Zb at b ⊢; rw [Jf4 e]; exact b,by rw [Jf4 e]; exact c,h6⟩
 -- the hold
 obtain⟨l1,q1,r1,i1⟩:=Re1 (F:=F) h hO hF hQ hI (G01 s af set (n:Int) false) (Jbe h.aft.sorted) (fun x hx=>by
  obtain⟨a,b,c,d⟩:=mD.1 hx
  exact⟨a,d,by show ¬ Zb s x < (n:Int); omega⟩) (fun pre x post e z hz h6 a1 a2=>.inr (R55 Q5b e (same_bay (by rw [e]; simp) hz h6 a1) a2)) (fun x hx=>by
  obtain⟨a,b,c,d⟩:=mD.1 hx
  rintro⟨m,c',e1,e2,e3,e4⟩
  have h7:=H61 e1 e2
  have a6:Jy s c'∈o:=(hc _).2 ⟨e3,x,.inr a,d,c,by unfold H16; rw [h7],by show (n:Int)≤Zb s x; omega⟩
  rw [h7,e4.2 a6] at c
  cases c)
 -- the covers
 obtain⟨o2,r2,a3,a7⟩:=Rec (F:=F) (q:=q1) i1.way.sta hO hF (G9d s bf af set (n:Int)) Ja0 (fun k hk=>by
  obtain⟨k0,x,hx,h8,a8,a4,b0⟩:=J5c.1 hk
  obtain⟨j,rfl⟩:∃ j:Nat,k=(j:Int):=⟨k.toNat,by omega⟩
  have a9:Jy s (G26 s x.Slot)=(j:Int):=a4
  exact⟨j,rfl,(J8a a9).1,(hc _).2 ⟨k0,x,hx,h8,a8,a4,by show (n:Int)≤Zb s x; omega⟩⟩)
 have a5:∀ a,a∈o2 ↔ Q08 s bf af set (((n+1:Nat):Int)≤·) a:=fun a=>by
  rw [a7,hc,J5c]
  constructor
  ·rintro⟨⟨a0,x,h1,h2,h3,h4,h5⟩,hn⟩
   have h5:(n:Int)≤Zb s x:=h5
   refine⟨a0,x,h1,h2,h3,h4,?_⟩
   show ((n+1:Nat):Int)≤Zb s x
   have:Zb s x≠(n:Int):=fun e=>hn ⟨a0,x,h1,h2,h3,h4,e⟩
   omega
  ·rintro⟨a0,x,h1,h2,h3,h4,h5⟩
   have h5:((n+1:Nat):Int)≤Zb s x:=h5
   refine⟨⟨a0,x,h1,h2,h3,h4,by show (n:Int)≤Zb s x; omega⟩,fun⟨_,y,_,_,_,h9,h0⟩=>?_⟩
   have h0:Zb s y=(n:Int):=h0
   unfold H16 at h4 h9
   have:=Jf3 (s:=s) (c:=G26 s x.Slot) (d:=G26 s y.Slot) (by omega) (by omega)
   unfold Zb at h5 h0
   omega
 -- the deck
 obtain⟨l3,q3,r3,i3⟩:=Re1 (F:=F) h a3 hF hQ i1 (G01 s af set (n:Int) true) (Jbe h.aft.sorted) (fun x hx=>by
  obtain⟨a,b,c,d⟩:=mD.1 hx
  refine⟨a,d,fun hh=>hh.elim (fun h=>by have h:Zb s x < (n:Int):=h; omega) (fun h=>?_)⟩
  rw [(mD.1 h).2.2.1] at c
  cases c) (fun pre x post e z hz h6 a1 a2=>.inr (R55 Q5b e (same_bay (by rw [e]; simp) hz h6 a1) a2)) (fun x hx=>by
  obtain⟨a,b,c,d⟩:=mD.1 hx
  rintro⟨m,c',e1,e2,e3,e4⟩
  have h7:=H61 e1 e2
  rw [h7] at c
  obtain⟨_,y,_,_,_,h9,h0⟩:=(a5 _).1 (e4.1 c)
  have h0:((n+1:Nat):Int)≤Zb s y:=h0
  unfold H16 at h9
  have:=Jf3 (s:=s) (c:=c') (d:=G26 s y.Slot) e3 h9.symm
  unfold Zb at b h0
  rw [h7] at b
  omega)
 refine⟨l3,o2,q3,?_,a3,i3.congr (fun x hx h8=>?_),a5⟩
 ·unfold Q67
  exact G45 _ _ _ _ _ (G45 _ _ _ _ _ r1 r2) r3
 ·rw [mD,mD]
  constructor
  ·rintro((h | h) | h)
   ·omega
   ·omega
   ·omega
  ·intro hh
   by_cases hb:Zb s x < (n:Int)
   ·exact .inl (.inl hb)
   ·cases b1:(G26 s x.Slot).Deck with
    | true=>exact .inr ⟨hx,by omega,rfl,h8⟩
    | false=>exact .inl (.inr ⟨hx,by omega,rfl,h8⟩)
theorem Yc3 (h:G32 s boxes bf af set) (hF:20≤F) (h8:q0.length≤20) (h9:q0.Nodup) (hd:∀ id∈q0,id ∉ bf.map (·.Box)) (a1:∀ x∈af,x.Box ∉ bf.map (·.Box)→x.Box∈q0) :
  ∃ q',Yx F s boxes (Hf6 s bf af set) (bf,[],q0)=some (af,[],q')∧q'.Nodup∧∀ id,id∈q' ↔ (id∈q0∨∃ x∈bf,x.Box=id∧x.Box∈set)∧¬ ∃ x∈af,x.Box=id∧x.Box∈set:=by
 have a3:=h.lb
 have outN:∀ n:Nat,∃ l' o' q',Yx F s boxes (outs s bf af set n) (bf,[],q0)=some (l',o',q')∧Ga0 s o'∧R21 s boxes bf set q0 (fun x=>Zb s x < (n:Int)) l' q'∧∀ a,a∈o' ↔ Q08 s bf af set (· < (n:Int)) a:=by
  intro n
  induction n with
  | zero=>
   refine⟨bf,[],q0,rfl,R3b,⟨h.start,fun x hx hm=>⟨fun _ hh=>?_,fun _=>hx⟩,h9,fun id=>⟨.inl,fun hh=>hh.elim _root_.id fun⟨x,hx,_,_,hG⟩=>?_⟩,by omega⟩,fun a=>⟨fun hh=>(Ma hh).elim,fun⟨_,x,hx,_,_,_,hG⟩=>?_⟩⟩
   ·have hh:Zb s x < 0:=hh
    have:=(h.bays (.inl hx)).1; omega
   ·have hG:Zb s x < 0:=hG
    have:=(h.bays (.inl hx)).1; omega
   ·have hG:Zb s x < 0:=hG
    have:=(h.bays hx).1; omega
  | succ n ih=>
   obtain⟨l1,o1,q1,r1,h7,i1,c1⟩:=ih
   obtain⟨l2,o2,q2,r2,h5,i2,c2⟩:=Z52 (F:=F) h h7 hF h8 hd i1 c1
   exact⟨l2,o2,q2,by rw [Q21]; exact G45 _ _ _ _ _ r1 r2,h5,i2,c2⟩
 obtain⟨l1,o1,q1,r1,h7,i1,c1⟩:=outN 40
 have h6:∀ x∈l1,x.Box ∉ set:=fun x hx hm=>(i1.gone x (i1.way.sub x hx) hm).1 hx (h.bays (.inl (i1.way.sub x hx))).2
 have h0:∀ id,id∈q1 ↔ id∈q0∨∃ x∈bf,x.Box=id∧x.Box∈set:=fun id=>by
  rw [i1.mem]
  refine or_congr_right ⟨fun⟨x,hx,e,hm,_⟩=>⟨x,hx,e,hm⟩,fun⟨x,hx,e,hm⟩=>⟨x,hx,e,hm,(h.bays (.inl hx)).2⟩⟩
 have a4:=i1.len
 have inN:∀ n:Nat,∃ l' o' q',Yx F s boxes (ins s bf af set n) (l1,o1,q1)=some (l',o',q')∧Ga0 s o'∧InI s boxes af set (·∈q1) (fun x=>Zb s x < (n:Int)) l' q'∧∀ a,a∈o' ↔ Q08 s bf af set ((n:Int)≤·) a:=by
  intro n
  induction n with
  | zero=>
   have none:∀ x∈af,¬ Zb s x < ((0:Nat):Int):=fun x hx=>by have:=(h.bays (.inr hx)).1; omega
   refine⟨l1,o1,q1,rfl,h7,⟨i1.way.turn h h6,fun x hx hm=>⟨fun hh=>(h6 x hh hm).elim,fun hh=>(none x hx hh).elim⟩,i1.nod,fun id=>⟨fun hh=>⟨hh,fun⟨x,hx,_,_,hG⟩=>none x hx hG⟩,fun hh=>hh.1⟩,by omega⟩,fun a=>?_⟩
   rw [c1]
   constructor
   ·rintro⟨a0,x,h1,h2,h3,h4,_⟩
    exact⟨a0,x,h1,h2,h3,h4,(h.bays h1).1⟩
   ·rintro⟨a0,x,h1,h2,h3,h4,_⟩
    exact⟨a0,x,h1,h2,h3,h4,(h.bays h1).2⟩
  | succ n ih=>
   obtain⟨l2,o2,q2,r2,h5,i2,c2⟩:=ih
   obtain⟨l3,o3,q3,r3,a2,i3,c3⟩:=Za3 (F:=F) h h5 hF (fun x hx hm=>by
    by_cases hb:x.Box∈bf.map (·.Box)
    ·obtain⟨y,hy,e⟩:=Mp.1 hb
     exact(h0 _).2 (.inr ⟨y,hy,e,by rw [show y.Box=x.Box from e]; exact hm⟩)
    ·exact(h0 _).2 (.inl (a1 x hx hb))) i2 c2
   exact⟨l3,o3,q3,by rw [Qde]; exact G45 _ _ _ _ _ r2 r3,a2,i3,c3⟩
 obtain⟨l2,o2,q2,r2,h5,i2,c2⟩:=inN 40
 have hl:l2=af:=i2.way.done h (fun x hx hm=>(i2.come x hx hm).2 (h.bays (.inr hx)).2)
 have ho:o2=[]:=List.eq_nil_iff_forall_not_mem.2 fun a ha=>by
  obtain⟨_,x,hx,_,_,_,hb⟩:=(c2 a).1 ha
  have hb:((40:Nat):Int)≤Zb s x:=hb
  have:=(h.bays hx).2
  omega
 subst hl ho
 refine⟨q2,?_,i2.nod,fun id=>?_⟩
 ·unfold Hf6
  exact G45 _ _ _ _ _ r1 r2
 ·rw [i2.mem,h0]
  refine and_congr_right fun _=>not_congr ⟨fun⟨x,hx,e,hm,_⟩=>⟨x,hx,e,hm⟩,fun⟨x,hx,e,hm⟩=>⟨x,hx,e,hm,(h.bays (.inr hx)).2⟩⟩
end
theorem R53 {s:Gj} (h:Hd4 s):H7d s:=⟨h.covs.len,fun x hx=>by
 rcases (h.covs.each x hx).rows with e | e <;> rw [e] <;> simp⟩
theorem Hcd.colIn {s:Gj} {boxes:List Box} {l:List G1} (h:Re s boxes l):∀ x∈l,Hd3 s x.Slot:=fun x hx=>by
 obtain⟨b,_,hb,_⟩:=h.each x hx
 exact Ged hb
theorem Z67 {F:Nat} {s:Gj} {boxes:List Box} {bf af:List G1} {lf:List Int} (hF:60≤F) (hs:H7d s) (h1:Re s boxes bf) (h2:Re s boxes af) (l1:bf.length≤10) (l2:af.length≤10)
  (hL:Z0 F s boxes bf af=some (lf,0)):G51 F s boxes bf af=some (Hf6 s bf af lf,0):=by
 refine G60 ?_
 unfold G51
 refine Gt hL ?_
 simp only [ne_eq,not_true_eq_false,decide_false,cond_false]
 exact Gt (Z68 hF hs (Hcd.colIn h1) (Hcd.colIn h2) (by omega) (by omega)) (Gn rfl)
def Ja4 (l:List (List G1)):List G1:=l.getLast?.getD []
theorem Z1f {s:Gj} {boxes:List Box} {calls:Int} {p:J26} (h:Q2e s boxes calls p) (hb:boxes.length≤10) (k:Nat):Re s boxes (Ja4 (p.States.take k))∧(Ja4 (p.States.take k)).length≤10:=by
 unfold Ja4
 cases hg:(p.States.take k).getLast? with
 | none=>exact⟨Jbd,by simp⟩
 | some st=>
  have hm:=List.mem_of_mem_take (List.mem_of_getLast? hg)
  obtain⟨j,hj⟩:=List.mem_iff_getElem?.1 hm
  have:=h.each j st hj
  exact⟨this.right,Nat.le_trans this.len hb⟩
section
variable {α:Type} {f:α→Int}
end
section
variable {κ ν:Type} [DecidableEq κ]
end
theorem Z69:Ym=some true:=by kernel_rfl
def G19:List Move→Int
 | []=>0
 | x::r=>G3e x+G19 r
theorem Rdf (x:Move):0≤G3e x∧G3e x≤1:=by unfold G3e; split <;> omega
theorem R46:∀ l:List Move,0≤G19 l∧G19 l≤(l.length:Int)
 | []=>⟨Int.le_refl _,Int.le_refl _⟩
 | x::r=>by
  have h1:=R46 r
  have h2:=Rdf x
  show 0≤G3e x+G19 r∧G3e x+G19 r≤_
  rw [Me]; omega
theorem J5f (x:Move):∀ l:List Move,G19 (l++[x])=G19 l+G3e x
 | []=>by show G3e x+0=0+G3e x; omega
 | y::r=>by
  show G3e y+G19 (r++[x])=G3e y+G19 r+G3e x
  rw [J5f x r]; omega
theorem R70 {l:List Move} (hl:l.length≤1000000):G5e l=some (G19 l):=by
 refine G60 ?_
 unfold G5e
 refine Jo (fun pre r=>r=G19 pre) rfl (fun pre y post r nx e hI h0=>?_) (fun r hI=>Gn hI)
 subst hI
 have h1:=R46 pre
 have hp:pre.length+1≤l.length:=by rw [e]; simp
 refine G00 (fun j=>j=G19 (pre++[y])) (fun K hK=>Hu (fun h=>Qo (by omega) (hK _ ?_)) (fun h=>hK _ ?_)) (fun j hj=>h0 _ hj)
 ·rw [J5f]
  rw [Mt,Mm,Mm] at h
  unfold G3e
  rw [if_pos h]
 ·rw [J5f]
  have h:¬ (y.Kind=2∨y.Kind=3):=fun g=>by
   rw [← Mm (p:=y.Kind=2),← Mm (p:=y.Kind=3),← Mt,h] at g
   cases g
  unfold G3e
  rw [if_neg h]; omega
section
variable {s:Gj} {boxes:List Box}
theorem Y9c {β:Type} {Q:β→Prop} {kx:Ge→Option β} {bad:Nat→Int→Ge→Option β}:∀ (ms:List Move) (i:Nat) (m:Ge) (t:St),Good s boxes t→H72 s boxes m t→(0≤m.lifts∧m.lifts+(ms.length:Int)≤1000000) →
  (∀ m' t',Yx 0 s boxes ms (H35 t)=some (H35 t')→Good s boxes t'→H72 s boxes m' t'→m'.lifts=m.lifts+G19 ms→Wp (kx m') Q) →
  (Yx 0 s boxes ms (H35 t)=none→∀ i e m',e≠0→Wp (bad i e m') Q) →
  Wp (each (fun y43 i43 (s43:Ge) nx43=>
   bnd (G4f s43 y43) fun r49=>
   bif decide (r49.1≠0) then bad i43 r49.1 r49.2 else nx43 r49.2) kx ms i m) Q
 | [],i,m,t,hG,hR,hl,hk,hb=>hk m t rfl hG hR (by show m.lifts=m.lifts+0; omega)
 | x::r,i,m,t,hG,hR,hl,hk,hb=>by
  have h4:=Rdf x
  have h5:((x::r).length:Int)=(r.length:Int)+1:=by rw [Me]; omega
  rw [each]
  refine H4 (wp_mono (Z5f hG hR (by omega) x) (fun q hq=>?_))
  rcases hq with ⟨hc,h0,h1,h6⟩ | ⟨hc,h0,he⟩
  ·refine Hu (fun h=>absurd h0 (M2 h)) (fun _=>?_)
   refine Y9c r (i+1) q.2 (nxt t x) (hc.step hG) h1 (by omega) (fun m' t' hr h2 h3 h7=>hk m' t' (Zz.2 ⟨hc,hr⟩) h2 h3 ?_) (fun hr=>hb ?_)
   ·show m'.lifts=m.lifts+(G3e x+G19 r)
    omega
   ·rw [Yx,if_pos (show Can s boxes (H97 (H35 t)) x from hc)]
    exact hr
  ·refine Hu (fun _=>hb ?_ _ _ _ h0) (fun h=>(h0 (by simpa using h)).elim)
   rw [Yx,if_neg (show ¬ Can s boxes (H97 (H35 t)) x from hc)]
theorem R39 {m:Ge} {t:St} {l:List Move} (hG:Good s boxes t) (hR:H72 s boxes m t) (hl:0≤m.lifts∧m.lifts+(l.length:Int)≤1000000) :
  Wp (G0e m l) (fun r=>(∃ t',Yx 0 s boxes l (H35 t)=some (H35 t')∧r.1=(l.length:Int)∧r.2.1=0∧Good s boxes t'∧H72 s boxes r.2.2 t'∧r.2.2.lifts=m.lifts+G19 l)∨(Yx 0 s boxes l (H35 t)=none∧r.2.1≠0)):=by
 unfold G0e
 exact Y9c (bad:=fun i e m'=>some ((i:Int),e,m')) l 0 m t hG hR hl (fun m' t' h1 h2 h3 h4=>Gn (.inl ⟨t',h1,rfl,rfl,h2,h3,h4⟩)) (fun h i e m' he=>Gn (.inr ⟨h,he⟩))
theorem Qc9 {F G:Nat}:∀ (ms:List Move) (st:St3),Yx F s boxes ms st=Yx G s boxes ms st
 | [],_=>rfl
 | m::r,st=>by
  rw [Yx,Yx]
  by_cases h:Can s boxes (H97 st) m
  ·rw [if_pos h,if_pos h]; exact Qc9 r _
  ·rw [if_neg h,if_neg h]
end
def Rdb (bf:List G1) (x:G1):Bool:=!(bf.any fun z=>decide (z.Box=x.Box))
def G3d (af bf:List G1):List Int:=(af.filter (Rdb bf)).map (·.Box)
theorem R44 {bf:List G1} {x:G1}:Rdb bf x=true ↔ x.Box ∉ bf.map (·.Box):=by
 unfold Rdb
 rw [Bool.not_eq_true',← Bool.not_eq_true,List.any_eq_true,Mp]
 exact not_congr ⟨fun⟨y,hy,e⟩=>⟨y,hy,M2 e⟩,fun⟨y,hy,e⟩=>⟨y,hy,M4 e⟩⟩
theorem H13 {af bf:List G1} {i:Int}:i∈G3d af bf ↔ (∃ x∈af,x.Box=i)∧i ∉ bf.map (·.Box):=by
 unfold G3d
 rw [Mp]
 constructor
 ·rintro⟨x,hx,rfl⟩
  exact⟨⟨x,(Ms.1 hx).1,rfl⟩,R44.1 (Ms.1 hx).2⟩
 ·rintro⟨⟨x,hx,rfl⟩,h⟩
  exact⟨x,Ms.2 ⟨hx,R44.2 h⟩,rfl⟩
theorem Qd8 {af bf:List G1} (h:af.Pairwise (fun a b=>a.Box < b.Box)):(G3d af bf).Pairwise (· < ·):=List.pairwise_map.2 (h.filter _)
theorem R7b {l:List G1} {f:G1→Option Bool} {p:G1→Bool} (h:∀ x∈l,f x=some (p x)):J7 l f=some (l.any p):=by
 have e:Qd l f=some (J60 p l):=Ha4 h
 unfold J7
 exact G60 (Gt e (Gn (by show decide (0≤J60 p l)=_; rw [H5f])))
theorem R43 {af bf:List G1} (hl:af.length≤1000):Qc af bf=some (G3d af bf):=by
 refine G60 ?_
 unfold Qc
 refine Jo (fun pre r=>r=G3d pre bf) rfl (fun pre y post r nx e hI h0=>?_) (fun r hI=>Gn hI)
 subst hI
 have hp:pre.length+1≤af.length:=by rw [e]; simp
 have h1:(G3d pre bf).length≤pre.length:=by unfold G3d; rw [Mn]; exact Ky _ _
 refine G00 (fun j=>j=G3d (pre++[y]) bf) (fun K hK=>?_) (fun j hj=>h0 _ hj)
 refine Gt (R7b (p:=fun z=>decide (z.Box=y.Box)) (fun x hx=>rfl)) (Hu (fun h=>Rj (G12 (by rw [Mj]; omega) (by omega)) (hK _ ?_)) (fun h=>hK _ ?_))
 ·have h:Rdb bf y=true:=h
  unfold G3d
  rw [List.filter_append,List.map_append,List.filter_cons,if_pos h]; rfl
 ·have h:Rdb bf y=false:=h
  unfold G3d
  rw [List.filter_append,List.map_append,List.filter_cons,if_neg (by rw [h]; decide)]; simp
structure Zf2 (F:Nat) (s:Gj) (boxes:List Box) (bf af:List G1) (lf:List Int):Prop where
 C:G32 s boxes bf af lf
 asc:lf.Pairwise (· < ·)
 bnd:∀ a∈lf,a∈bf.map (·.Box)++af.map (·.Box)
 lift:Z0 F s boxes bf af=some (lf,0)
 call:G51 F s boxes bf af=some (Hf6 s bf af lf,0)
 good:Good s boxes ⟨bf,[],G3d af bf⟩
 good2:Good s boxes ⟨af,[],G3d bf af⟩
 run:Yx 0 s boxes (Hf6 s bf af lf) (bf,[],G3d af bf)=some (af,[],G3d bf af)
section
variable {s:Gj} {boxes:List Box} {bf af:List G1} {lf:List Int}
theorem Z08 (hb:boxes.length≤10) (h1:Re s boxes bf) (h2:Re s boxes af):bf.length+(G3d af bf).length≤10:=by
 have hn:(bf.map (·.Box)++G3d af bf).Nodup:=List.nodup_append.2 ⟨J59 h1.sorted,Yk (Qd8 h2.sorted),fun a ha b hb e=>by
  subst e
  exact(H13.1 hb).2 ha⟩
 have:=hn.length_le_of_subset (l₂:=boxes.map (·.ID)) (fun a ha=>by
  have key:∀ {l:List G1},Re s boxes l→∀ x∈l,x.Box∈boxes.map (·.ID):=fun {l} h x hx=>by
   obtain⟨b,hb,_⟩:=h.each x hx
   exact Mp.2 ⟨b,Z5e hb,G9e hb⟩
  rcases Mo.1 ha with ha | ha
  ·obtain⟨x,hx,rfl⟩:=Mp.1 ha
   exact key h1 x hx
  ·obtain⟨⟨x,hx,rfl⟩,_⟩:=H13.1 ha
   exact key h2 x hx)
 simp only [Mi,Mn] at this
 omega
theorem Q22 (hL:Ja8 s) (hb:boxes.length≤10) (h1:Re s boxes bf) (h2:Re s boxes af):Good s boxes ⟨bf,[],G3d af bf⟩:=by
 refine⟨hL,h1,R3b,fun k hk=>(Ma hk).elim,fun i hi=>?_,Qd8 h2.sorted,fun i hi=>(H13.1 hi).2,Z08 hb h1 h2⟩
 obtain⟨⟨x,hx,rfl⟩,_⟩:=H13.1 hi
 obtain⟨b,g1,g2,_⟩:=h2.each x hx
 exact⟨b,g1,Y82 g2⟩
theorem Qe2 {F:Nat}:∀ (ms:List Move) (t:St) (st':St3),Good s boxes t→Yx F s boxes ms (H35 t)=some st'→Good s boxes (H97 st')
 | [],t,st',hG,h=>by cases h; exact hG
 | m::r,t,st',hG,h=>by
  obtain⟨hc,h⟩:=Zz.1 h
  exact Qe2 r (nxt t m) st' ((show Can s boxes t m from hc).step hG) h
theorem Z1c {F:Nat} (hC:G32 s boxes bf af lf) (hb:boxes.length≤10):Yx F s boxes (Hf6 s bf af lf) (bf,[],G3d af bf)=some (af,[],G3d bf af):=by
 have hG:=Q22 hC.ship hb hC.bef hC.aft
 have h4:=hG.num
 obtain⟨q',h1,h9,h5⟩:=Yc3 (F:=20) (q0:=G3d af bf) hC (by omega) (by show (G3d af bf).length≤20; have h:bf.length+(G3d af bf).length≤10:=h4; omega) (Yk hG.asc) (fun id hid=>(H13.1 hid).2) (fun x hx hn=>H13.2 ⟨⟨x,hx,rfl⟩,hn⟩)
 have h6:Good s boxes ⟨af,[],q'⟩:=Qe2 _ ⟨bf,[],G3d af bf⟩ _ hG h1
 have h0:∀ {st:List G1} {a:Int},a ∉ st.map (·.Box)→(Za st a).2≠true:=fun hn hh=>hn (Qe9.1 hh)
 have e:q'=G3d bf af:=G7e h6.asc (Qd8 hC.bef.sorted) fun i=>by
  rw [h5]
  constructor
  ·rintro⟨hh,h2⟩
   rcases hh with hh | ⟨x,hx,rfl,hm⟩
   ·obtain⟨⟨x,hx,rfl⟩,h7⟩:=H13.1 hh
    refine(h2 ⟨x,hx,rfl,hC.least.seeds af (by simp) x hx fun e3=>h0 h7 ?_⟩).elim
    rw [e3,G84 hC.aft.sorted hx]
   ·exact H13.2 ⟨⟨x,hx,rfl⟩,fun h8=>by
     obtain⟨y,hy,ey⟩:=Mp.1 h8
     exact h2 ⟨y,hy,ey,by rw [show y.Box=x.Box from ey]; exact hm⟩⟩
  ·intro hh
   obtain⟨⟨x,hx,rfl⟩,h3⟩:=H13.1 hh
   refine⟨.inr ⟨x,hx,rfl,hC.least.seeds bf (by simp) x hx fun e3=>h0 h3 ?_⟩,fun⟨y,hy,ey,_⟩=>h3 (Mp.2 ⟨y,hy,ey⟩)⟩
   rw [← e3,G84 hC.bef.sorted hx]
 subst e
 exact(Qc9 (F:=F) (G:=20) _ _).trans h1
end
theorem Z1b {F:Nat} {s:Gj} {boxes:List Box} {calls:Int} {p:J26} (hF:60≤F) (hs:Hd4 s) (hb:Gcb calls boxes) (hp:Q2e s boxes calls p) {k:Nat} {af:List G1} (ha:p.States[k]? = some af) :
  ∃ lf,Zf2 F s boxes (Ja4 (p.States.take k)) af lf:=by
 have h5:=Q6e hs
 have h3:=hb.len
 have h2:=hp.each _ _ ha
 have h1:=Z1f hp h3 k
 have h4:af.length≤10:=Nat.le_trans h2.len h3
 obtain⟨⟨lf,e0⟩,el,h0,h6,h7,h8⟩:=Y5b h5 h1.1 h2.right h1.2 h4 hF
 have h9:e0=0:=h0
 subst h9
 have hC:G32 s boxes (Ja4 (p.States.take k)) af lf:=⟨Jef hs,h1.1,h2.right,h1.2,h4,h8⟩
 exact⟨lf,hC,h6,h7,el,Z67 hF (R53 hs) h1.1 h2.right h1.2 h4 el,Q22 hC.ship h3 h1.1 h2.right,Q22 hC.ship h3 h2.right h1.1,Z1c hC h3⟩
end Go.Proofs.YtgcpimpnpcdmmaaGreat
