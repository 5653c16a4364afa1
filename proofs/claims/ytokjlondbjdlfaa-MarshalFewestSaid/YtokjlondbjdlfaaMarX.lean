/- No fewer moves; -/
import Derived.Test.YtokjlondbjdlfaaMarR
import Derived.Test.YtokjlondbjdlfaaXL
set_option maxRecDepth 100000
set_option linter.unusedVariables false
namespace Go.Proofs.Ytokjlondbjdlfaa
open Go.RowKit Go.Sort Go.Shelf

theorem J07:∀ p:List G3,¬ J4d p p
 | [],h=>h
 | a::p,h=>by
  rcases h with h | ⟨_,h⟩
  ·unfold ltM at h; omega
  ·exact J07 p h
theorem Q52 (p:List G3) (h:slt p p):False:=by
 rcases h with h | ⟨_,h⟩
 ·omega
 ·exact J07 p h
theorem Qf3 {p q:List G3} (h:sle p q) (g:sle q p):p=q:=by
 rcases h with h | h
 ·exact h
 ·rcases g with g | g
  ·exact g.symm
  ·exact(Q52 p (J8c h g)).elim
theorem J08:∀ (a:List G3) {b c:List G3},J4d (a++b) (a++c)→J4d b c
 | [],b,c,h=>h
 | x::a,b,c,h=>by
  rcases h with h | ⟨_,h⟩
  ·unfold ltM at h; omega
  ·exact J08 a h
theorem Q53 (a:List G3) {b c:List G3} (h:sle (a++b) (a++c)):sle b c:=by
 rcases h with h | h | ⟨h1,h2⟩
 ·exact .inl (List.append_cancel_left h)
 ·exact .inr (.inl (by rw [Kg,Kg] at h; omega))
 ·exact .inr (.inr ⟨by rw [Kg,Kg] at h1; omega,J08 a h2⟩)
theorem R45 {p q:List G3} (h:sle p q):p.length≤q.length:=by
 rcases h with rfl | h | h
 ·exact K0
 ·omega
 ·omega
theorem J18 {h:Nat}:∀ {p q:List G3} {ss:List (List Int)},run h ss (p++q)=(run h ss p).bind fun t=>run h t q
 | [],q,ss=>rfl
 | m::p,q,ss=>by
  rw [List.cons_append,run,run]
  split
  ·exact J18
  ·rfl
section
variable {H:Int} {order:List Int}
theorem H94 {ss t:List (List Int)} {p:List G3} (hR:Y2 ss H order) (hr:run H.toNat ss p=some t):Y2 t H order∧t.length=ss.length∧t.flatten.length=ss.flatten.length:=by
 obtain⟨h1,h2,h3⟩:=Hdb hR.y hr
 exact⟨⟨h1,hR.o.nodup,fun b hb=>(h2 b).2 (hR.o.in_ b hb)⟩,h3,((List.perm_ext_iff_of_nodup h1.nodup hR.y.nodup).2 h2).length_eq⟩
theorem Hda {ss:List (List Int)} {m:G3} (h0:(Hf ss H.toNat m).2=0):run H.toNat ss [m]=some (Hf ss H.toNat m).1:=by
 rw [run,if_pos h0]; rfl
theorem H14:∀ (n F:Nat) {ss:List (List Int)} (left:Int),n+1≤F→0≤left→left≤(n:Int)→left≤100→Y2 ss H order →
  Wp (Qj F ⟨ss,H⟩ order left) (fun b=>b=true→∃ q t,(q.length:Int)≤left∧run H.toNat ss q=some t∧Q1 order t=[])
 | n,0,ss,left,hF,_,_,_,_=>by omega
 | n,F+1,ss,left,hF,h0,hn,a0,hR=>by
  unfold Qj Z6
  have hW:Rz ⟨ss,H⟩ order=some (G04 (Q1 order ss),0):=by rw [Qa8,if_pos hR]
  refine Gj hW (Hn (fun _=>Hj fun hb=>?_) (fun hc=>?_))
  ·have hb:((G04 (Q1 order ss)).length:Int)=0:=Ep hb
   rw [G45] at hb
   exact⟨[],ss,by simpa using h0,rfl,Ej (by omega)⟩
  ·rw [G45] at hc
   simp only [Ks,decide_eq_false_iff_not] at hc
   have h9:=hR.y.most
   refine Jz (fun _ _=>True) trivial (fun pre x post s nx e _ h6=>?_) (fun s _=>Hj fun h=>by cases h)
   refine Jz (fun _ _=>True) trivial (fun pr x' po s' nx' e' _ h4=>?_) (fun s _=>h6 _ trivial)
   refine Gj (Hea hR.y ⟨(pre.length:Int),(pr.length:Int)⟩) ?_
   unfold G12
   by_cases hs:(Hf ss H.toNat ⟨(pre.length:Int),(pr.length:Int)⟩).2=0
   ·rw [if_pos hs]
    dsimp only
    have h5:=Hda hs
    obtain⟨h7,_,_⟩:=H94 hR h5
    have hd:decide ((0:Int)=0)=true:=rfl
    rw [hd]
    cases n with
    | zero=>omega
    | succ n=>
     refine G00 rfl (Rj (Q0 (by omega) (Hj rfl))) ?_
     obtain⟨b,hb,h8⟩:=H14 n F (left - 1) (by omega) (by omega) (by omega) (by omega) h7
     refine G00 rfl hb (Hn (fun h=>Hj fun _=>?_) (fun _=>h4 _ trivial))
     obtain⟨q,t,h1,h2,h3⟩:=h8 (by simpa using h)
     refine⟨⟨(pre.length:Int),(pr.length:Int)⟩::q,t,by rw [Kc]; omega,?_,h3⟩
     rw [run,if_pos hs]; exact h2
   ·rw [if_neg hs]
    dsimp only
    have hd:decide ((Hf ss H.toNat ⟨(pre.length:Int),(pr.length:Int)⟩).2=0)=false:=Eu hs
    rw [hd]
    exact J87 rfl (J87 rfl (Hn (fun h=>by simp at h) (fun _=>h4 _ trivial)))
end
theorem J05 {H:Nat} {rows:List (List Int)} {v i:Int} (hv:0≤v):∀ (f k:Nat),f+k≤rows.length→(G6c H rows v i f k).flatten.length≤rows.flatten.length+1
 | 0,_,_=>Nat.le_succ _
 | f+1,k,hk=>by
  rw [G6c]
  split
  ·have hn:(0:Int) < (rows.length:Int):=by omega
   have e:(v+(k:Int)).tmod (rows.length:Int)=(v+(k:Int)) % (rows.length:Int):=Int.tmod_eq_emod_of_nonneg (by omega)
   have h1:=Int.emod_nonneg (v+(k:Int)) (show (rows.length:Int)≠0 by omega)
   have h2:=Int.emod_lt_of_pos (v+(k:Int)) hn
   rw [e]
   generalize hm:((v+(k:Int)) % (rows.length:Int)).toNat=m
   have h0:m < rows.length:=by omega
   have hs:rows[m]? = some rows[m]:=Ew h0
   have hg:rows.getD m []=rows[m]:=by rw [List.getD_eq_getElem?_getD,hs]; rfl
   rw [hg,(Jea (v:=i+1) hs).length_eq,Kg]
   exact K0
  ·exact J05 hv f (k+1) (by omega)
theorem J04 {H:Nat}:∀ (l:List Int) (i:Nat) (rows:List (List Int)),(∀ v∈l,0≤v)→(Gb1 H l i rows).flatten.length≤rows.flatten.length+l.length
 | [],i,rows,_=>K0
 | v::l,i,rows,hl=>by
  rw [Gb1]
  split
  ·have h1:=J04 (H:=H) l (i+1) (G6c H rows v (i:Int) rows.length 0) (fun u hu=>hl u (List.mem_cons_of_mem _ hu))
   have h2:=J05 (H:=H) (rows:=rows) (i:=(i:Int)) (hl v (List.mem_cons_self ..)) rows.length 0 (by omega)
   rw [Kc]; omega
  ·rw [Kc]; omega
theorem Q75 {stacks height:Int} {l:List Int} (hs:0≤stacks∧stacks≤3) (hh:0≤height∧height≤255) (hl:∀ v∈l,0≤v∧v≤255) (h5:l.length≤5):Wp (Jv stacks height l) (fun y=>J67 y∧Jq y.Stacks y.Height∧y.Stacks.flatten.length≤5∧y.Stacks.length≤4):=by
 obtain⟨y,e,hy,hr⟩:=J66 (stacks:=stacks) (height:=height) (l:=l) (by omega) hh hl
 refine⟨y,e,hy,hr,?_⟩
 unfold Jv at e
 obtain⟨_,e⟩:=J2 e
 have e:=Ex e
 rw [← e]
 have e1:stacks.tmod 6=stacks % 6:=Int.tmod_eq_emod_of_nonneg hs.1
 constructor
 ·have:=J04 (H:=1+(height.tmod 6).toNat) l 0 (List.replicate (1+(stacks.tmod 6).toNat) []) (fun v hv=>(hl v hv).1)
  have h0:(List.replicate (1+(stacks.tmod 6).toNat) ([]:List Int)).flatten=[]:=by simp
  rw [h0,List.length_nil,Nat.zero_add] at this
  show (Gb1 (1+(height.tmod 6).toNat) l 0 (List.replicate (1+(stacks.tmod 6).toNat) [])).flatten.length≤5
  omega
 ·have:=(J48 (H:=1+(height.tmod 6).toNat) l 0 (List.replicate (1+(stacks.tmod 6).toNat) []) (fun s hs=>by rw [List.eq_of_mem_replicate hs]; simp) (fun s hs=>by rw [List.eq_of_mem_replicate hs]; simp)).1
  rw [List.length_replicate,e1] at this
  dsimp only
  rw [e1]
  omega
theorem Jff (stacks height:Int) (l o:List Int) (hs:0≤stacks∧stacks≤255) (hh:0≤height∧height≤255) (hl:∀ v∈l,0≤v∧v≤255) (ho:∀ v∈o,0≤v∧v≤255):Rg 9000100 stacks height l o=some true:=by
 refine Rj ?_
 unfold Rg
 refine Gj Q0b (Hn (fun h=>by cases h) (fun _=>?_))
 refine H2a (fun j=>j.length≤5∧∀ v∈j,0≤v∧v≤255) (fun K hK=>?_) (fun j hj=>?_)
 ·refine Hn (fun h=>?_) (fun h=>hK _ ⟨by have:=Er h; omega,hl⟩)
  have h:=Ep h
  refine Yc (R6 (m:=5) rfl (by omega) (hK _ ⟨by rw [List.length_take]; omega,fun v hv=>hl v (List.mem_of_mem_take hv)⟩))
 obtain⟨b3,b4⟩:=hj
 have e4:stacks.tmod 4=stacks % 4:=Int.tmod_eq_emod_of_nonneg hs.1
 refine Yc (Q28 (by decide) ?_)
 rw [e4]
 refine Yc (wp_mono (Q75 (stacks:=stacks % 4) (by omega) hh b4 b3) (fun y hy=>?_))
 obtain⟨hm,hr,h7,h8⟩:=hy
 refine Yc (wp_mono (H7d (F:=9000100) (by decide) hm.len hr.nodup ho (by decide)) (fun order hO=>?_))
 obtain⟨b8,hO⟩:=hO
 obtain⟨ss,H⟩:=y
 have hr:Jq ss H:=hr
 have h7:ss.flatten.length≤5:=h7
 have h8:ss.length≤4:=h8
 have hR:Y2 ss H order:=⟨hr,hO⟩
 rcases H53 (F:=9000100) (by decide) hR h7 h8 with ⟨p,t,hL,b9,b0,a7,h5⟩ | ⟨hL,a3⟩
 ·refine Gj hL (Hn (fun h=>by simp at h) (fun _=>?_))
  refine Jz (fun pre s=>run H.toNat ss pre=some s.1∧s.2=H) ⟨rfl,rfl⟩ (fun pre m post s nx e hI b5=>?_) (fun s hI=>?_)
  ·have e:p=pre++m::post:=e
   obtain⟨now,H'⟩:=s
   obtain⟨hI,hH⟩:=hI
   have hH:H'=H:=hH
   subst hH
   have hI:run H'.toNat ss pre=some now:=hI
   obtain⟨a8,c0,c1⟩:=H94 hR hI
   have h4:=b0
   rw [e,J18,hI] at h4
   have h4:run H'.toNat now (m::post)=some t:=h4
   rw [run] at h4
   split at h4
   case isFalse=>cases h4
   rename_i h0
   obtain⟨b6,c2,c3⟩:=H94 a8 (Hda h0)
   have a4:J4 9000100 ⟨(Hf now H'.toNat m).1,H'⟩ order=some (post,0):=by
    rcases H53 (F:=9000100) (by decide) b6 (by omega) (by omega) with ⟨p',t',a9,_,a5,b1,h6⟩ | ⟨a9,h9⟩
    ·have a1:=h6 post t h4 a7
     have b2:run H'.toNat ss (pre++m::p')=some t':=by
      rw [J18,hI]
      show run H'.toNat now (m::p')=some t'
      rw [run,if_pos h0]; exact a5
     have a2:=h5 _ _ b2 b1
     rw [e] at a2
     have e1:pre++m::post=(pre++[m])++post:=by simp
     have e2:pre++m::p'=(pre++[m])++p':=by simp
     rw [e1,e2] at a2
     rw [a9,Qf3 a1 (Q53 _ a2)]
    ·exact absurd a7 (h9 _ _ h4)
   have b7:pre.length < p.length:=by rw [e]; simp
   refine Gj (Hea a8.y m) ?_
   unfold G12
   rw [if_pos h0]
   refine Gj a4 ?_
   have hc:(!(decide ((0:Int)≠0)||decide ((0:Int)≠0)))=true:=by decide
   dsimp only
   rw [hc]
   have a6:p.drop (pre.length+1)=post:=by
    rw [e,show pre++m::post=(pre++[m])++post by simp,List.drop_left' (by simp)]
   refine G00 rfl (Rj (Q0 (by omega) (Hj rfl))) (G00 rfl (Rj (R6 (m:=pre.length+1) (by omega) (by omega) rfl)) ?_)
   rw [a6]
   refine G00 rfl (G6e post) (Hn (fun h=>by simp at h) (fun _=>b5 _ ⟨?_,rfl⟩))
   dsimp only
   rw [J18,hI]
   exact Hda h0
  ·dsimp only
   cases hc:(decide ((p.length:Int)=0)||decide (5 < (p.length:Int))) with
   | true=>
    exact J87 rfl (J87 rfl (Hj (by simp)))
   | false=>
    simp only [Ks,decide_eq_false_iff_not] at hc
    obtain⟨b,hb,a0⟩:=H14 (H:=H) (order:=order) 5 9000100 (ss:=ss) ((p.length:Int) - 1) (by decide) (by omega) (by omega) (by omega) hR
    refine G00 rfl (Rj (Q0 (by omega) (Hj rfl))) (G00 rfl hb (Hj ?_))
    cases b with
    | false=>rfl
    | true=>
     obtain⟨q,u,h1,h2,h3⟩:=a0 rfl
     have:=R45 (h5 q u h2 h3)
     omega
 ·refine Gj hL (Hn (fun _=>?_) (fun h=>by simp at h))
  obtain⟨b,hb,a0⟩:=H14 (H:=H) (order:=order) 3 9000100 (ss:=ss) 3 (by decide) (by omega) (by omega) (by omega) hR
  refine G00 rfl hb (Hj ?_)
  cases b with
  | false=>rfl
  | true=>
   obtain⟨q,u,h1,h2,h3⟩:=a0 rfl
   exact absurd h3 (a3 q u h2)
end Go.Proofs.Ytokjlondbjdlfaa
