/-
 The examples of the chapter. BlockPairs: the law's plain mathematics. BlockLeaves: the law's plain mathematics. BlockLess: the law's plain mathematics.
-/
import Derived.Test.YtpgkkengffpnpaaGreatXP
import Derived.Test.YtpgkkengffpnpaaGreatBlkA
set_option linter.unusedVariables false
set_option linter.unusedSimpArgs false
set_option linter.unnecessarySimpa false
set_option maxRecDepth 100000
namespace Go.Proofs.YtpgkkengffpnpaaGreat
open Go.RowKit
theorem awake22:J3 60=some true:=by kernel_rfl
end Go.Proofs.YtpgkkengffpnpaaGreat
set_option linter.unusedSimpArgs false
set_option linter.unnecessarySimpa false
set_option maxRecDepth 100000
set_option linter.unusedVariables false
namespace Go.Proofs.YtpgkkengffpnpaaGreat
open Go.RowKit

end Go.Proofs.YtpgkkengffpnpaaGreat
set_option linter.unusedSimpArgs false
set_option linter.unnecessarySimpa false
set_option maxRecDepth 100000
set_option linter.unusedVariables false
namespace Go.Proofs.YtpgkkengffpnpaaGreat
open Go.RowKit

theorem Pl.sub {s:Gr} {l q:List Stowed} {a b:Int} (h:Pl s q a b) (hs:∀ x∈q,x∈l):Pl s l a b:=by
 obtain⟨x,hx,e,y,hy,e2,hh⟩:=h
 exact⟨x,hs x hx,e,y,hs y hy,e2,hh⟩
theorem H30.sub {s:Gr} {l q:List Stowed} {ids:List Int} {b:Int} (h:H30 s q ids b) (hs:∀ x∈q,x∈l):H30 s l ids b:=fun C h1 h2=>h C (fun a b ha hp=>h1 a b ha (hp.sub hs)) h2
end Go.Proofs.YtpgkkengffpnpaaGreat
set_option linter.unusedSimpArgs false
set_option linter.unnecessarySimpa false
set_option maxRecDepth 100000
set_option linter.unusedVariables false
namespace Go.Proofs.YtpgkkengffpnpaaGreat
open Go.RowKit

/-- A box that can be taken, with covers open upon which nothing stands, is reached for alone. -/
theorem no_out {s:Gr} {boxes:List G9} {l:List Stowed} {o:List Int} (h:H9c s boxes l) (hu:∀ k∈o,Upon0 s l k) {x:Stowed} (hx:x∈l) (ho:G57 l x.Slot=[]) (hs:¬ J84 s o x.Slot):∀ b,¬ Pl s l x.G9 b:=fun b hp=>by
 rcases pl_of h hx hp with hb | ⟨z,hz,_,m0,c0,m1,c1,e1,e2,e3,e4,q1,q2,q3,q4⟩
 ·rw [ho] at hb; cases hb
 ·exact hs ⟨m0,c0,e1,e2,q1,q3,fun hk=>hu _ hk z hz m1 c1 e3 e4 q2 q4⟩
theorem J6a {pre post:List Stowed} {x y:Stowed} (h:y∈pre++x::post):y=x∨y∈pre++post:=by
 simp only [List.mem_append,List.mem_cons] at h ⊢
 rcases h with h | h | h
 ·exact .inr (.inl h)
 ·exact .inl h
 ·exact .inr (.inr h)
theorem rcS_less {s:Gr} {pre post:List Stowed} {x y:Stowed} (hn:∀ b,¬ Pl s (pre++x::post) x.G9 b) (hy:y∈pre++post) {b:Int} (hb:b≠x.G9) (h:H30 s (pre++x::post) [y.G9] b):H30 s (pre++post) [y.G9] b:=by
 have key:=h (fun b=>H30 s (pre++post) [y.G9] b∨b=x.G9) (fun a b ha hp=>by
  by_cases hax:a=x.G9
  ·exact(hn b (hax ▸ hp)).elim
  by_cases hbx:b=x.G9
  ·exact .inr hbx
  rcases ha with ha | ha
  ·obtain⟨u,hu,e,w,hw,ew,hh⟩:=hp
   have hu':u∈pre++post:=by
    rcases J6a hu with rfl | hu
    ·exact(hax e.symm).elim
    ·exact hu
   have hw':w∈pre++post:=by
    rcases J6a hw with rfl | hw
    ·exact(hbx ew.symm).elim
    ·exact hw
   exact .inl (ha.step ⟨u,hu',e,w,hw',ew,hh⟩)
  ·exact(hax ha).elim) (fun a ha=>by rw [List.mem_singleton] at ha; subst ha; exact .inl H30.self)
 rcases key with h | h
 ·exact h
 ·exact(hb h).elim
theorem lawLessF {F:Nat} (hF:40≤F) (hA:J3 F=some true) (l:List Gx) (covers:Int) (drops:List Gk) (hp:∀ p∈l,Gbe p) (hd:∀ x∈drops,Ge1 x) :
  Qu F l covers drops=some true:=by
 refine G0c ?_
 unfold Qu
 refine H7 (wp_mono (He4 l covers drops hp hd (most:=9) (by omega)) (fun r3 h3=>?_))
 obtain⟨s,boxes,st⟩:=r3
 have hM:J86 9 s boxes st:=h3
 dsimp only
 have hS:H9c s boxes st:=hM.sta
 have hlen:=hS.len
 refine Jm (fun pre o=>Gb3 s o∧∀ k∈o,Upon0 s st k) ⟨openR_nil,fun k hk=>(List.not_mem_nil hk).elim⟩ (fun pre y post o nx e hI hnx=>?_) (fun o hI=>?_)
 ·obtain⟨i1,i2⟩:=hI
  have hpl:pre.length < s.Covers.length:=by rw [e]; simp
  refine G25 (fun o=>Gb3 s o∧∀ k∈o,Upon0 s st k) (fun K hK=>?_) (fun j hj=>hnx _ hj)
  refine H7 (wp_mono (open_spec hS i1 (by omega) hpl) (fun r hr=>?_))
  rcases hr with ⟨_,rfl⟩ | ⟨hu,hr0,hro,hrm⟩
  ·exact Hf (fun h=>absurd h (by decide)) (fun _=>hK _ ⟨i1,i2⟩)
  ·refine Hf (fun _=>hK _ ⟨hro,fun k hk=>?_⟩) (fun h=>(of_decide_eq_false h hr0).elim)
   rcases (hrm k).1 hk with hk | rfl
   ·exact i2 k hk
   ·exact hu
 obtain⟨hO,hU⟩:=hI
 refine Jm (fun _ _=>True) trivial (fun pre0 x post0 u nx e0 _ hnx=>?_) (fun u _=>Gz hA (Gh rfl))
 have hx:x∈st:=by rw [e0]; simp
 refine G25 (fun _=>True) (fun K hK=>?_) (fun j _=>hnx _ trivial)
 obtain⟨v,hv,hc⟩:=free_spec hS hO hx
 refine H7 (wp_mono (take_spec hS hx hv) (fun r hr=>?_))
 obtain⟨h1,h2⟩:=hr
 refine Hf (fun _=>hK _ trivial) (fun hz=>?_)
 have hz:r.2=0:=by
  have:=of_decide_eq_false hz
  exact Classical.byContradiction this
 have hv0:v=0:=h1.symm.trans hz
 obtain⟨pre,post,e1,e2⟩:=h2 hv0
 obtain⟨ho,hsh⟩:G57 st x.Slot=[]∧¬ J84 s o x.Slot:=by
  rcases hc with ⟨e,_⟩ | ⟨e,_⟩ | ⟨_,g1,g2⟩
  ·omega
  ·omega
  ·exact⟨g1,g2⟩
 have hn:=no_out hS hU hx ho hsh
 rw [e2]
 subst e1
 have hlen2:(pre++x::post).length=(pre++post).length+1:=by simp only [List.length_append,List.length_cons]; omega
 have hS2:H9c s boxes (pre++post):=⟨hS.ship,right_less hS.right ho,by omega⟩
 have hxn:x.G9 ∉ (pre++post).map (·.G9):=fun hm=>by
  have hso:=hS.right.sorted
  obtain⟨z,hz,e⟩:=List.mem_map.1 hm
  obtain⟨s1,s2,s3⟩:=List.pairwise_append.1 hso
  rcases List.mem_append.1 hz with hz | hz
  ·have:=s3 z hz x (List.mem_cons_self ..); omega
  ·have:=(List.pairwise_cons.1 s2).1 z hz; omega
 have hmemb:∀ b,b≠x.G9→b∈(pre++x::post).map (·.G9)→b∈(pre++post).map (·.G9):=fun b hb hm=>by
  obtain⟨z,hz,rfl⟩:=List.mem_map.1 hm
  rcases J6a hz with rfl | hz
  ·exact(hb rfl).elim
  ·exact List.mem_map.2 ⟨z,hz,rfl⟩
 refine Jm (fun _ _=>True) trivial (fun pr y po u2 nx2 e3 _ hnx2=>?_) (fun u2 _=>hK _ trivial)
 have hy:y∈pre++post:=by rw [e3]; simp
 have hyx:y.G9≠x.G9:=fun e=>hxn (List.mem_map.2 ⟨y,hy,e⟩)
 refine Gz (Gc6 hS hF (Hb9 hy)) (Gz (Gc6 hS2 hF hy) (Hf (fun h=>by simp at h) (fun _=>?_)))
 refine Jm (fun _ _=>True) trivial (fun pa z pb u3 nx3 e4 _ hnx3=>?_) (fun u3 _=>?_)
 ·have e4:G74 s boxes (pre++post) y.G9=pa++z::pb:=e4
  have hz':z∈G74 s boxes (pre++post) y.G9:=by rw [e4]; simp
  obtain⟨g1,g2,g3,g4⟩:=G7f.1 hz'
  have hin:z∈G74 s boxes (pre++x::post) y.G9:=G7f.2 ⟨by
   obtain⟨w,hw,e⟩:=List.mem_map.1 g1
   exact List.mem_map.2 ⟨w,Hb9 hw,e⟩,g2,g3,g4.sub (fun w hw=>Hb9 hw)⟩
  refine Gz (law_holds _ _) (Hf (fun h=>?_) (fun _=>hnx3 _ trivial))
  rw [decide_eq_true hin] at h; cases h
 ·refine Jm (fun _ _=>True) trivial (fun pa z pb u4 nx4 e5 _ hnx4=>?_) (fun u4 _=>hnx2 _ trivial)
  have e5:G74 s boxes (pre++x::post) y.G9=pa++z::pb:=e5
  have hz':z∈G74 s boxes (pre++x::post) y.G9:=by rw [e5]; simp
  obtain⟨g1,g2,g3,g4⟩:=G7f.1 hz'
  by_cases hzx:z=x.G9
  ·rw [decide_eq_false (fun h:z≠x.G9=>h hzx)]
   exact H7 (Gh (Hf (fun h=>by cases h) (fun _=>hnx4 _ trivial)))
  ·have hzi:=hmemb z hzx g1
   obtain⟨w,hw,ew⟩:=List.mem_map.1 hzi
   have hin:z∈G74 s boxes (pre++post) y.G9:=G7f.2 ⟨hzi,g2,g3,by
    rw [← ew] at g4 ⊢
    exact rcS_less hn hw hyx g4⟩
   rw [decide_eq_true (show z≠x.G9 from hzx)]
   simp only [cond_true,Bool.true_and]
   refine Gz (law_holds _ _) (Hf (fun h=>?_) (fun _=>hnx4 _ trivial))
   rw [decide_eq_true hin] at h; cases h
theorem lawLess (l:List Gx) (covers:Int) (drops:List Gk) (hp:∀ p∈l,Gbe p) (hd:∀ x∈drops,Ge1 x) :
  Qu 60 l covers drops=some true:=lawLessF (by omega) awake22 l covers drops hp hd
end Go.Proofs.YtpgkkengffpnpaaGreat
