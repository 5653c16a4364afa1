/-
 The examples of the chapter. BlockPairs: the law's plain mathematics. BlockLeaves: the law's plain mathematics. What Fewest returns. BlockFree: the law's plain mathematics. BlockWrong: the law's plain mathematics.
-/
import Derived.Test.YtpgkkengffpnpaaGreatXP
import Derived.Test.YtpgkkengffpnpaaGreatBlkA
set_option linter.unusedVariables false
set_option linter.unusedSimpArgs false
set_option linter.unnecessarySimpa false
set_option maxRecDepth 100000
namespace Go.Proofs.YtpgkkengffpnpaaGreat
open Go.RowKit
theorem J39:J1 60=some true:=by kernel_rfl
end Go.Proofs.YtpgkkengffpnpaaGreat
set_option linter.unusedSimpArgs false
set_option linter.unnecessarySimpa false
set_option maxRecDepth 100000
set_option linter.unusedVariables false
namespace Go.Proofs.YtpgkkengffpnpaaGreat
open Go.RowKit

end Go.Proofs.YtpgkkengffpnpaaGreat
set_option linter.unusedSimpArgs false
set_option linter.unnecessarySimpa false
set_option maxRecDepth 100000
set_option linter.unusedVariables false
namespace Go.Proofs.YtpgkkengffpnpaaGreat
open Go.RowKit

theorem Pl.sub {s:Gp} {l q:List Stowed} {a b:Int} (h:Pl s q a b) (hs:∀ x∈q,x∈l):Pl s l a b:=by
 obtain⟨x,hx,e,y,hy,e2,hh⟩:=h
 exact⟨x,hs x hx,e,y,hs y hy,e2,hh⟩
theorem H80.sub {s:Gp} {l q:List Stowed} {ids:List Int} {b:Int} (h:H80 s q ids b) (hs:∀ x∈q,x∈l):H80 s l ids b:=fun C h1 h2=>h C (fun a b ha hp=>h1 a b ha (hp.sub hs)) h2
theorem J75 {n m:Nat} (h:n+m≤1000):decide ((n+m)*32≤140737488355328∧n+m≤maxLen)=true:=decide_eq_true ⟨by omega,by simp only [maxLen]; omega⟩
end Go.Proofs.YtpgkkengffpnpaaGreat
set_option linter.unusedSimpArgs false
set_option linter.unnecessarySimpa false
set_option maxRecDepth 100000
set_option linter.unusedVariables false
namespace Go.Proofs.YtpgkkengffpnpaaGreat
open Go.RowKit

end Go.Proofs.YtpgkkengffpnpaaGreat
set_option linter.unusedSimpArgs false
set_option linter.unnecessarySimpa false
set_option maxRecDepth 100000
set_option linter.unusedVariables false
namespace Go.Proofs.YtpgkkengffpnpaaGreat
open Go.RowKit

theorem find_new {boxes:List G9} {b:G9} (h:∀ x∈boxes,x.ID≠b.ID):Jw (boxes++[b]) b.ID=some b:=by
 unfold Jw
 rw [List.find?_append,List.find?_eq_none.2 (fun x hx hh=>h x hx (of_decide_eq_true hh))]
 simp
theorem H5b.ids {most:Nat} {s:Gp} {boxes:List G9} {l:List Stowed} (h:H5b most s boxes l) {x:Stowed} (hx:x∈l):5≤x.G9∧x.G9≤5*(most:Int):=by
 obtain⟨b,hb,_⟩:=h.sta.right.each x hx
 have hid:b.ID=x.G9:=of_decide_eq_true (List.find?_some (p:=fun b:G9=>decide (b.ID=x.G9)) hb)
 have:=h.box b (List.mem_of_find?_eq_some hb)
 omega
theorem H07.more {s:Gp} {boxes:List G9} {l:List Stowed} (h:H07 s boxes l) (b:G9):H07 s (boxes++[b]) l:=⟨h.ship,J19 h.right,h.len⟩
theorem room64 {n m:Nat} (h:n+m≤1000):decide ((n+m)*64≤140737488355328∧n+m≤maxLen)=true:=decide_eq_true ⟨by omega,by simp only [maxLen]; omega⟩
end Go.Proofs.YtpgkkengffpnpaaGreat
set_option linter.unusedSimpArgs false
set_option linter.unnecessarySimpa false
set_option maxRecDepth 100000
set_option linter.unusedVariables false
namespace Go.Proofs.YtpgkkengffpnpaaGreat
open Go.RowKit

theorem wp_and {β:Type} {A:Bool} {D:β} {m:Option β} {Q:β→Prop} (hA:A=true) (h:Wp m Q):Wp (bif A then m else some D) Q:=by subst hA; exact h
theorem lawBlkWrongF {F:Nat} (hF:40≤F) (hA:J1 F=some true) (l:List Gy) (covers:Int) (drops:List Gi) (n:Int) (hp:∀ p∈l,G87 p) (hd:∀ x∈drops,G6e x) :
  Qy F l covers drops n=some true:=by
 refine Y4 ?_
 unfold Qy
 refine H3 (wp_mono (H73 l covers drops hp hd (most:=9) (by omega)) (fun r3 h3=>?_))
 obtain⟨s,boxes,st⟩:=r3
 have hM:H5b 9 s boxes st:=h3
 dsimp only
 have hS:=hM.sta
 have hs:=Zd hS.ship
 have hlen:=hM.len
 have hbn:=hM.num
 have hno3:Jw boxes 3=none:=by
  unfold Jw
  exact List.find?_eq_none.2 fun b hb hh=>by
   have:=(hM.box b hb).1
   have:=of_decide_eq_true hh
   omega
 simp only [List.nil_append]
 refine Qe (J75 (by simp only [List.length_nil]; omega)) (Qe (J75 (by rw [List.length_singleton]; omega)) ?_)
 generalize hbad:st++[Stowed.mk 3 (Slot.mk 0 0 0)]=bad
 have hnr:Q2 s boxes bad=some false:=by
  refine Y4 (wp_mono (Gd6 hs.right hs.tier (by rw [← hbad,List.length_append,List.length_singleton]; omega)) (fun r hr=>?_))
  cases r with
  | false=>rfl
  | true=>
   obtain⟨b,hb,_⟩:=(hr.1 rfl).each (Stowed.mk 3 (Slot.mk 0 0 0)) (by rw [← hbad]; simp)
   have hb:Jw boxes 3=some b:=hb
   rw [hno3] at hb; cases hb
 have e1:J4 F s boxes bad 5=some ([],2):=by
  unfold J4
  exact Y4 (Gs hnr (H7 (fun _=>Gg rfl) (fun h=>by cases h)))
 have e2:Qh F s boxes bad=some ([],2):=by
  unfold Qh
  exact Y4 (Gs hnr (H7 (fun _=>Gg rfl) (fun h=>by cases h)))
 have e3:Qf F s boxes bad=some (0,[],[],2):=by
  unfold Qf
  exact Y4 (Gs hnr (H7 (fun _=>Gg rfl) (fun h=>by cases h)))
 have e4:Jh F s boxes bad 5=some ([],0,2):=by
  unfold Jh
  exact Y4 (Gs hnr (H7 (fun _=>Gg rfl) (fun h=>by cases h)))
 have e5:J4 F s boxes st (max n 100)=some ([],6):=by
  unfold J4
  refine Y4 (Gs hS.rightM (H7 (fun h=>by cases h) (fun _=>Gs (Hd4 _ _) ?_)))
  rw [decide_eq_false (fun h=>by
   obtain⟨x,hx,e⟩:=List.mem_map.1 h
   have:=(hM.ids hx).2
   have e:x.G9=max n 100:=e
   omega)]
  exact H7 (fun _=>Gg rfl) (fun h=>by cases h)
 have hS0:H07 s boxes []:=⟨hS.ship,Ha1,by simp⟩
 have e6:Qf F s boxes []=some (0,[],[],6):=by
  unfold Qf
  exact Y4 (Gs hS0.rightM (H7 (fun h=>by cases h) (fun _=>H7 (fun _=>Gg rfl) (fun h=>absurd h (by decide)))))
 refine Gs e1 (Gs e2 (Gs e3 (Gs e4 (Gs e5 (Gs e6 ?_)))))
 refine Qe (room64 (by rw [List.length_singleton]; omega)) ?_
 generalize hb3:G9.mk 3 ByteArray.empty 45 false 0 0 0 0 false=b3
 have hid:b3.ID=3:=by rw [← hb3]
 have hSm:H07 s (boxes++[b3]) st:=hS.more b3
 have e7:Jh F s (boxes++[b3]) st 3=some ([],0,6):=by
  have hb:=find_new (boxes:=boxes) (b:=b3) (fun x hx=>by have:=(hM.box x hx).1; omega)
  rw [hid] at hb
  unfold Jh
  refine Y4 (Gs hSm.rightM (H7 (fun h=>by cases h) (fun _=>Gs (G70 _ 3) ?_)))
  rw [hb,← hb3]
  exact H7 (fun _=>Gg rfl) (fun h=>absurd h (by decide))
 have e8:Jh F s (boxes++[b3]) st (min n 2)=some ([],0,6):=by
  have hb:Jw (boxes++[b3]) (min n 2)=none:=by
   unfold Jw
   exact List.find?_eq_none.2 fun b hb hh=>by
    have hh:=of_decide_eq_true hh
    rcases List.mem_append.1 hb with hb | hb
    ·have:=(hM.box b hb).1; omega
    ·rw [List.mem_singleton] at hb; subst hb; omega
  unfold Jh
  refine Y4 (Gs hSm.rightM (H7 (fun h=>by cases h) (fun _=>Gs (G70 _ _) ?_)))
  rw [hb]
  exact H7 (fun _=>Gg rfl) (fun h=>absurd h (by decide))
 refine Gs e7 (Gs e8 ?_)
 refine G09 (fun _=>True) (fun K hK=>H7 (fun h=>?_) (fun _=>hK _ trivial)) (fun j _=>?_)
 ·have hpos:0 < st.length:=by have:=of_decide_eq_true h; omega
  have hg:st[0]? = some st[0]:=List.getElem?_eq_getElem hpos
  have hx:st[0]∈st:=List.getElem_mem hpos
  refine Rj (m:=0) rfl hg ?_
  generalize st[0]=x at hx
  obtain⟨b,hb,_⟩:=hM.sta.right.each x hx
  have hsz:=(hM.box b (List.mem_of_find?_eq_some hb)).2.2.1
  have e9:Jh F s (boxes++[b3]) st x.G9=some ([],0,96):=by
   unfold Jh
   refine Y4 (Gs hSm.rightM (H7 (fun h=>by cases h) (fun _=>Gs (G70 _ _) ?_)))
   rw [Hf9 hb]
   refine H7 (fun hh=>?_) (fun _=>Gs (Hd4 _ _) ?_)
   ·simp only [Bool.not_true,Bool.false_or,Bool.and_eq_true,decide_eq_true_eq] at hh
    omega
   rw [decide_eq_true (List.mem_map.2 ⟨x,hx,rfl⟩)]
   exact H7 (fun _=>Gg rfl) (fun h=>by cases h)
  refine Gs e9 (H7 (fun h=>absurd h (by decide)) (fun _=>hK _ trivial))
 ·refine H3 ?_
  refine wp_and (by decide) ?_
  refine Q7 (by decide) (Gg ?_)
  refine H3 ?_
  refine wp_and (by decide) ?_
  refine Q7 (by decide) (Gg ?_)
  refine H3 ?_
  refine wp_and (by decide) ?_
  rw [same_ints]
  refine Gg (H3 ?_)
  refine wp_and (by decide) ?_
  rw [hA]
  exact Gg (Gg (by decide))
theorem lawBlkWrong (l:List Gy) (covers:Int) (drops:List Gi) (n:Int) (hp:∀ p∈l,G87 p) (hd:∀ x∈drops,G6e x) :
  Qy 60 l covers drops n=some true:=lawBlkWrongF (by omega) J39 l covers drops n hp hd
end Go.Proofs.YtpgkkengffpnpaaGreat
