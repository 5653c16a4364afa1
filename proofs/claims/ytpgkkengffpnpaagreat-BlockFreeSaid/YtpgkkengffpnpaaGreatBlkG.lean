/-
 BlockFree: the law's plain mathematics.
-/
import Derived.Test.YtpgkkengffpnpaaGreatBlkF
set_option linter.unusedSimpArgs false
set_option linter.unnecessarySimpa false
set_option maxRecDepth 100000
set_option linter.unusedVariables false
namespace Go.Proofs.YtpgkkengffpnpaaGreat
open Go.RowKit

theorem find_new {boxes:List G9} {b:G9} (h:∀ x∈boxes,x.ID≠b.ID):Q6 (boxes++[b]) b.ID=some b:=by
 unfold Q6
 rw [List.find?_append,List.find?_eq_none.2 (fun x hx hh=>h x hx (of_decide_eq_true hh))]
 simp
theorem ins_head {l q:List Stowed} {x:Stowed} (h:H8f l x q) (hl:∀ y∈l,x.G9 < y.G9):q=x::l:=by
 obtain⟨pre,post,rfl,rfl,h1,_⟩:=h
 cases pre with
 | nil=>rfl
 | cons y r=>
  have a:=h1 y (by simp)
  have b:=hl y (by simp)
  omega
theorem Ha7.ids {most:Nat} {s:Gp} {boxes:List G9} {l:List Stowed} (h:Ha7 most s boxes l) {x:Stowed} (hx:x∈l):5≤x.G9∧x.G9≤5*(most:Int):=by
 obtain⟨b,hb,_⟩:=h.sta.right.each x hx
 have hid:b.ID=x.G9:=of_decide_eq_true (List.find?_some (p:=fun b:G9=>decide (b.ID=x.G9)) hb)
 have:=h.box b (List.mem_of_find?_eq_some hb)
 omega
theorem H12.more {s:Gp} {boxes:List G9} {l:List Stowed} (h:H12 s boxes l) (b:G9):H12 s (boxes++[b]) l:=⟨h.ship,J15 h.right,h.len⟩
theorem room64 {n m:Nat} (h:n+m≤1000):decide ((n+m)*64≤140737488355328∧n+m≤maxLen)=true:=decide_eq_true ⟨by omega,by simp only [maxLen]; omega⟩
theorem lawFreeF {F:Nat} (hF:40≤F) (hA:J3 F=some true) (l:List Gx) (covers:Int) (drops:List Gi) (more:Gi) (hp:∀ p∈l,Gc6 p) (hd:∀ x∈drops,G9b x) (hm:G9b more) :
  Qx F l covers drops more=some true:=by
 refine G09 ?_
 unfold Qx
 refine H4 (wp_mono (Hf3 l covers drops hp hd (most:=7) (by omega)) (fun r3 h3=>?_))
 obtain⟨s,boxes,st⟩:=r3
 have hM:Ha7 7 s boxes st:=h3
 dsimp only
 obtain⟨⟨c1,c2⟩,⟨k1,k2⟩⟩:=hm
 have hlen:=hM.len
 have hbn:=hM.num
 refine Qc ⟨by omega,by omega⟩ (H4 (He5 (by decide) ?_))
 rw [Int.tmod_eq_emod_of_nonneg k1]
 refine Qc ⟨by omega,by omega⟩ ?_
 refine G08 (fun j=>(more.Small=true∧j=20)∨(more.Small=false∧j=40)) (fun K hK=>Hb (fun h=>hK _ (.inl ⟨h,rfl⟩)) (fun h=>hK _ (.inr ⟨h,rfl⟩))) (fun size hsize=>?_)
 refine Qn (room64 (by rw [List.length_singleton]; omega)) ?_
 generalize hb3:G9.mk 3 ByteArray.empty size false 0 0 (1+more.Kilos % 4) 0 false=b3
 have hz:b3.Size=20∨b3.Size=40:=by
  rw [← hb3]
  show size=20∨size=40
  rcases hsize with h | h
  ·exact .inl h.2
  ·exact .inr h.2
 have hbs:b3.Size=size:=by rw [← hb3]
 have hb:Q6 (boxes++[b3]) 3=some b3:=by
  have hid:b3.ID=3:=by rw [← hb3]
  have:=find_new (boxes:=boxes) (b:=b3) (fun x hx=>by have:=(hM.box x hx).1; omega)
  rwa [hid] at this
 have hS:H12 s (boxes++[b3]) st:=hM.sta.more b3
 have hx:(3:Int) ∉ st.map (·.G9):=fun h=>by
  obtain⟨x,hx,e⟩:=List.mem_map.1 h
  have:=(hM.ids hx).1
  have e:x.G9=3:=e
  omega
 have hlt:∀ y:Slot,∀ z∈st,(Stowed.mk 3 y).G9 < z.G9:=fun y z hz=>by
  have:=(hM.ids hz).1
  show (3:Int) < z.G9
  omega
 generalize boxes++[b3]=bx at hb hS
 refine H4 (wp_mono (Fewest_spec hS (by omega) hF hb hz hx) (fun r14 h14=>?_))
 obtain⟨ok,o1,o2,o3,hr⟩:=h14
 have hres:=fun y=>resF_eq hS (by omega:20≤F) hb hz hx y
 rcases hr with ⟨_,rfl⟩ | ⟨hne,hsl,h0,hle⟩
 ·exact Hb (fun _=>fin_yes rfl hA) (fun h=>absurd h (by decide))
 have hpos:=List.length_pos_iff.2 hne
 refine Hb (fun h=>?_) (fun _=>Hb (fun h=>?_) (fun _=>?_))
 ·have:=of_decide_eq_true h; omega
 ·simp only [Bool.or_eq_true,decide_eq_true_eq] at h
  rcases h with h | h
  ·exact(h h0).elim
  ·omega
 have hnd:r14.1.Nodup:=by rw [hsl]; exact o2.sublist List.filter_sublist
 have hmem:∀ y,y∈r14.1 ↔ y∈ok∧Gc3 s bx (G2c F s bx st 3 y).1 3=r14.2.1:=fun y=>by
  rw [hsl,List.mem_filter,decide_eq_true_eq]
 have hfull:∀ y∈ok,(G2c F s bx st 3 y).1=Stowed.mk 3 y::st∧H12 s bx (G2c F s bx st 3 y).1:=fun y hy=>by
  obtain⟨g1,g2⟩:=(o3 y).1 hy
  obtain⟨_,_,g3,g4⟩:=put_ok hS (by omega) (x:=Stowed.mk 3 y) hb hx (hres y).2 g2
  exact⟨ins_head g3 (hlt y),g4⟩
 refine Je (fun _ _=>True) trivial (fun pre y post u nx e _ hnx=>?_) (fun u _=>?_)
 ·have hy:y∈r14.1:=by rw [e]; simp
  obtain⟨hy1,hy2⟩:=(hmem y).1 hy
  obtain⟨f1,f2⟩:=hfull y hy1
  simp only [List.nil_append]
  have ef:[Stowed.mk 3 y]++st=(G2c F s bx st 3 y).1:=by rw [f1]; rfl
  refine Qn (room32 (by simp)) (Qn (room32 (by rw [List.length_singleton]; omega)) ?_)
  rw [ef]
  have hin:Stowed.mk 3 y∈(G2c F s bx st 3 y).1:=by rw [f1]; simp
  refine Gy (Gce f2 hF hin) (Gy f2.rightM ?_)
  have hcnt:((G8d s bx (G2c F s bx st 3 y).1 3).length:Int)=r14.2.1:=hy2
  show Wp (bnd (bif ((!(((!true)||(decide ((0:Int)≠0)))||(decide (((G8d s bx (G2c F s bx st 3 y).1 3).length:Int)≠r14.2.1))))&&(decide (0 < (pre.length:Int)))) then G0c ((pre.length:Int) - 1) some else some 0) _) _
  rw [hcnt]
  simp only [ne_eq,not_true_eq_false,decide_false,Bool.not_true,Bool.or_false,Bool.not_false,Bool.true_and,Bool.false_or]
  have hprev:Wp (bif decide (0 < (pre.length:Int)) then G0c ((pre.length:Int) - 1) some else some 0) (fun v=>Wp (bif decide (0 < (pre.length:Int)) then Z0 r14.1 v some else some default) (fun p=>(decide (0 < (pre.length:Int))&&decide (p=y))=false)):=by
   by_cases hp0:0 < pre.length
   ·have hle:pre.length≤8000:=by
     have h1:=congrArg List.length e
     have h2:r14.1.length≤ok.length:=by
      have:=congrArg List.length hsl
      rw [this]; exact List.length_filter_le _ _
     have:=(Zn hS.ship).cols
     simp only [List.length_append,List.length_cons] at h1
     omega
    have hg:r14.1[pre.length - 1]? = some (pre[pre.length - 1]'(by omega)):=by
     rw [e,List.getElem?_append_left (by omega),List.getElem?_eq_getElem (by omega)]
    rw [decide_eq_true (show 0 < (pre.length:Int) by omega)]
    simp only [cond_true,Bool.true_and]
    refine Qc ⟨by omega,by omega⟩ (Gh (Ro (m:=pre.length - 1) (by omega) hg (Gh (decide_eq_false fun hh=>?_))))
    rw [e,List.nodup_append] at hnd
    exact hnd.2.2 _ (List.getElem_mem _) y (by simp) hh
   ·rw [decide_eq_false (show ¬ 0 < (pre.length:Int) by omega)]
    exact Gh (Gh rfl)
  refine H4 (wp_mono hprev (fun v hv=>H4 (wp_mono hv (fun p hpz=>?_))))
  rw [hpz]
  exact Hb (fun h=>by cases h) (fun _=>hnx _ trivial)
 ·refine Je (fun _ _=>True) trivial (fun pre c post u2 nx e _ hnx=>?_) (fun u2 _=>Gy hA (Gh rfl))
  refine Qn (by decide) (Hb2 (fun _ _=>True) trivial (fun i u3 nx2 hi _ hnx2=>?_) (fun u3 _=>hnx _ trivial))
  refine G08 (fun _=>True) (fun K hK=>?_) (fun j _=>hnx2 _ trivial)
  refine G08 (fun _=>True) (fun K2 hK2=>Hb (fun h=>hK2 _ trivial) (fun h=>hK2 _ trivial)) (fun half _=>?_)
  generalize hy:Slot.mk (pre.length:Int) (i:Int) half=y
  obtain⟨r91,e91,h91⟩:=J72 (F:=F) hS (H0c (s:=s)) (by omega) (x:=Stowed.mk 3 y) hb hz hx
  refine Gy e91 (Hb (fun _=>hK _ trivial) (fun h=>?_))
  have h0':r91.2=0:=by
   have:=of_decide_eq_false h
   exact Classical.byContradiction this
  obtain⟨g1,g2,g3,g4⟩:=put_ok hS (by omega) (x:=Stowed.mk 3 y) hb hx h91 h0'
  have hop:J76 s st y=[]:=opnL_nil g1 g2
  have hrs:G2c F s bx st 3 y=r91:=by unfold G2c; rw [hop,e91]; rfl
  have hok:y∈ok:=(o3 y).2 ⟨g1,by rw [hrs]; exact h0'⟩
  have hin:Stowed.mk 3 y∈r91.1:=by rw [ins_head g3 (hlt y)]; simp
  refine Gy (Gce g4 hF hin) ?_
  refine Je (fun pr b=>b=true ↔ y∈pr) ⟨fun h=>Bool.noConfusion h,fun h=>(List.not_mem_nil h).elim⟩ (fun pr z po b nx3 e3 hJ hnx3=>hnx3 _ ?_) (fun b hJ=>?_)
  ·rw [Bool.or_eq_true,hJ,decide_eq_true_eq,List.mem_append,List.mem_singleton]
  ·have hb:b=decide (Gc3 s bx r91.1 3=r14.2.1):=by
    rw [Bool.eq_iff_iff,hJ,hmem,hrs,decide_eq_true_eq]
    exact⟨fun h=>h.2,fun h=>⟨hok,h⟩⟩
   have hle':=hle y hok
   rw [hrs] at hle'
   unfold Gc3 at hle' hb
   refine Hb (fun h=>?_) (fun _=>hK _ trivial)
   rw [hb,decide_eq_false (show ¬ (((G8d s bx r91.1 3).length:Int) < r14.2.1) by omega)] at h
   simp at h
theorem lawFree (l:List Gx) (covers:Int) (drops:List Gi) (more:Gi) (hp:∀ p∈l,Gc6 p) (hd:∀ x∈drops,G9b x) (hm:G9b more) :
  Qx 60 l covers drops more=some true:=lawFreeF (by omega) awake22 l covers drops more hp hd hm
end Go.Proofs.YtpgkkengffpnpaaGreat
