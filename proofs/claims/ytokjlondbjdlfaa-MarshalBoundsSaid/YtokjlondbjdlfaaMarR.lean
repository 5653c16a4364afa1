/- Made yards are right,ordered boxes are right orders; -/
import Derived.Test.YtokjlondbjdlfaaMarQ
import Derived.Test.YtokjlondbjdlfaaMarQ
import Derived.Test.YtokjlondbjdlfaaXK
set_option maxRecDepth 100000
set_option linter.unusedVariables false
namespace Go.Proofs.Ytokjlondbjdlfaa
open Go.RowKit Go.Sort Go.Shelf

theorem Qde {rows:List (List Int)} {m:Nat} {s:List Int} {v:Int} (h:rows[m]? = some s):((rows.set m (s++[v])).flatten).Perm (rows.flatten++[v]):=by
 have:=Gd8 (v:=s++[v]) h
 rw [List.perm_iff_count] at *
 intro z
 have:=this z
 simp only [List.count_append] at this ⊢
 omega
def R9c (i:Nat) (rows:List (List Int)):Prop:=rows.flatten.Nodup∧∀ b∈rows.flatten,b≤(i:Int)
theorem J31 {H:Nat} {rows:List (List Int)} {v:Int} {i:Nat} (h:R9c i rows) (hN:rows≠[]→0≤v):∀ (f k:Nat),f+k≤rows.length→R9c (i+1) (G99 H rows v (i:Int) f k)
 | 0,_,_=>⟨h.1,fun b hb=>by have:=h.2 b hb; omega⟩
 | f+1,k,hk=>by
  rw [G99]
  split
  ·have h0:rows≠[]:=fun e=>by rw [e] at hk; simp at hk
   have hv:=hN h0
   have hn:(0:Int) < (rows.length:Int):=by omega
   have e:(v+(k:Int)).tmod (rows.length:Int)=(v+(k:Int)) % (rows.length:Int):=Int.tmod_eq_emod_of_nonneg (by omega)
   have h1:=Int.emod_nonneg (v+(k:Int)) (show (rows.length:Int)≠0 by omega)
   have h2:=Int.emod_lt_of_pos (v+(k:Int)) hn
   rw [e]
   generalize hm:((v+(k:Int)) % (rows.length:Int)).toNat=m
   have h3:m < rows.length:=by omega
   have hs:rows[m]? = some rows[m]:=Ew h3
   have hg:rows.getD m []=rows[m]:=by rw [List.getD_eq_getElem?_getD,hs]; rfl
   rw [hg]
   have hp:=Qde (v:=(i:Int)+1) hs
   refine⟨hp.nodup_iff.2 (List.nodup_append.2 ⟨h.1,by simp,fun a ha c hc=>?_⟩),fun b hb=>?_⟩
   ·rw [Ko] at hc
    have:=h.2 a ha
    omega
   ·rcases Km.1 (hp.mem_iff.1 hb) with hb | hb
    ·have:=h.2 b hb; omega
    ·rw [Ko] at hb; omega
  ·exact J31 h hN f (k+1) (by omega)
theorem Hf3 {H:Nat}:∀ (l:List Int) (i:Nat) (rows:List (List Int)),(∀ v∈l,0≤v)→R9c i rows→(Gf2 H l i rows).flatten.Nodup
 | [],i,rows,_,h=>h.1
 | v::l,i,rows,hl,h=>by
  rw [Gf2]
  split
  ·exact Hf3 l (i+1) _ (fun u hu=>hl u (List.mem_cons_of_mem _ hu)) (J31 h (fun _=>hl v (List.mem_cons_self ..)) rows.length 0 (by omega))
  ·exact h.1
theorem Q5e {stacks height:Int} {l:List Int} (hs:0≤stacks∧stacks≤255) (hh:0≤height∧height≤255) (hl:∀ v∈l,0≤v∧v≤255):Wp (Qz stacks height l) (fun y=>Jb3 y∧Jv y.Stacks y.Height):=by
 obtain⟨y,e,hy⟩:=Qc5 hs hh hl
 refine⟨y,e,hy,?_⟩
 unfold Qz at e
 obtain⟨_,e⟩:=J1 e
 have e:=Ex e
 have hn:y.Stacks.flatten.Nodup:=by
  rw [← e]
  refine Hf3 l 0 _ (fun v hv=>(hl v hv).1) ?_
  have:(List.replicate (1+(stacks.tmod 6).toNat) ([]:List Int)).flatten=[]:=by simp
  exact⟨by rw [this]; exact List.nodup_nil,fun b hb=>by rw [this] at hb; simp at hb⟩
 exact⟨hy.low,hy.high,hy.some_,Nat.le_trans hy.most (by decide),hy.fit,hn,fun b hb=>by have:=hy.ids b hb; omega⟩
theorem J67 {F:Nat} (hF:100 < F) {y:Gq} (hy:y.Stacks.flatten.length≤36) (h9:y.Stacks.flatten.Nodup) {o:List Int} (ho:∀ v∈o,0≤v∧v≤255) {most:Int} (hm:most≤20):Wp (Qg F y o most) (fun r=>r.length≤20∧H48 y.Stacks r):=by
 unfold Qg
 refine Q8 (fun pre s=>s=pre.flatten) rfl (fun pre x post s nx e hI h4=>?_) (fun s hI=>?_)
 ·subst hI
  rw [e,List.flatten_append,List.flatten_cons,Kg,Kg] at hy
  exact Jz (Zb (by omega) (by decide)) (h4 _ (by simp))
 ·have hI:s=y.Stacks.flatten:=hI
  subst hI
  refine wp_loop (fun z=>∃ i:Nat,z.2.2=(i:Int)∧i≤20∧z.2.1.length=i∧z.1.length≤36∧(z.2.1++z.1).Perm y.Stacks.flatten) (fun z=>21 - z.2.1.length) ⟨0,rfl,by omega,rfl,hy,.refl _⟩ (by dsimp only [List.length_nil]; omega) (fun z nx hz h4=>?_)
  obtain⟨all,out,iz⟩:=z
  obtain⟨i,hi,a1,h5,h6,h0⟩:=hz
  have hi:iz=(i:Int):=hi
  have h5:out.length=i:=h5
  have h6:all.length≤36:=h6
  have h0:(out++all).Perm y.Stacks.flatten:=h0
  subst hi
  refine Hs (fun h=>?_) (fun h=>Hq ⟨by dsimp only; omega,(List.nodup_append.1 (h0.nodup_iff.2 h9)).1,fun b hb=>h0.mem_iff.1 (Km.2 (.inl hb))⟩)
  simp only [Ki,Kj] at h
  obtain⟨⟨h1,h2⟩,h3⟩:=h
  obtain⟨v,hv⟩:∃ v,o[i]? = some v:=⟨_,Ew (by omega)⟩
  have a0:=ho v (Ey hv)
  have e:v.tmod (all.length:Int)=v % (all.length:Int):=Int.tmod_eq_emod_of_nonneg a0.1
  have a2:=Int.emod_nonneg v (show (all.length:Int)≠0 by omega)
  have a3:=Int.emod_lt_of_pos v (show (0:Int) < (all.length:Int) by omega)
  obtain⟨m,hm⟩:∃ m:Nat,v % (all.length:Int)=(m:Int):=⟨(v % (all.length:Int)).toNat,by omega⟩
  refine Qi rfl hv (Q6 (by omega) (Z6 (Qd5 (by dsimp only; omega) ?_)))
  dsimp only
  rw [e,hm]
  have h7:m < all.length:=by omega
  refine Qi rfl (Ew h7) (Jz (Zb (by rw [Kh]; omega) (by decide)) (Z6 (Rq (m:=m) rfl (by omega) ?_)))
  refine Jz (Zb (by rw [List.length_nil,List.length_take]; omega) (by decide)) (Q6 (by omega) (Z6 (Rq (m:=m+1) (by omega) (by omega) ?_)))
  refine Jz (Zb (by rw [List.nil_append,List.length_take,List.length_drop]; omega) (by decide)) (Q6 (by omega) (h4 _ ⟨i+1,by dsimp only; omega,by omega,by dsimp only; rw [Kg,Kh]; omega,?_,?_⟩ ?_))
  ·dsimp only
   rw [List.nil_append,Kg,List.length_take,List.length_drop]; omega
  ·dsimp only
   rw [List.nil_append]
   have e2:all=all.take m++all[m]::all.drop (m+1):=by rw [← List.drop_eq_getElem_cons h7,List.take_append_drop]
   refine List.Perm.trans ?_ h0
   rw [List.append_assoc]
   refine List.Perm.append_left out ?_
   have h8:(all.take m++all[m]::all.drop (m+1)).Perm ([all[m]]++(all.take m++all.drop (m+1))):=List.perm_middle
   rw [← e2] at h8
   exact h8.symm
  ·dsimp only
   rw [Kg,Kh]; omega
theorem R45 {ss:List (List Int)} {H:Int} (hr:Jv ss H):G9d ⟨ss,H⟩=some ((ss.length:Int)*H - (ss.flatten.length:Int),0):=by
 refine Y4 ?_
 unfold G9d
 have h5:=hr.all
 have h8:=hr.low
 have h0:=hr.high
 have h7:=hr.most
 refine Gk (Gc5 ss H) ?_
 rw [Es hr]
 refine Hs (fun h=>by cases h) (fun _=>?_)
 refine Q8 (fun pre s=>s=(pre.length:Int)*H - (pre.flatten.length:Int)) (by simp) (fun pre x post s nx e hI h6=>?_) (fun s hI=>Hq (by rw [hI]))
 have e:ss=pre++x::post:=e
 subst hI
 have hp:pre.length < 30:=by
  have:=congrArg List.length e
  simp only [Kg,Kc] at this; omega
 have hx:=hr.fit x (by rw [e]; simp)
 have h1:(pre.length:Int)*H≤30*6:=Int.mul_le_mul (by omega) h0 (by omega) (by omega)
 have h2:0≤(pre.length:Int)*H:=Int.mul_nonneg (by omega) (by omega)
 have h3:pre.flatten.length≤180:=by
  rw [e,List.flatten_append,Kg] at h5; omega
 refine Q6 (by dsimp only; omega) (Q6 (by dsimp only; omega) (h6 _ ?_))
 rw [List.flatten_append,List.flatten_singleton,Kg,Kg,Kh]
 have h4:((pre.length+1:Nat):Int)*H=(pre.length:Int)*H+H:=by
  have:((pre.length+1:Nat):Int)=(pre.length:Int)+1:=by omega
  rw [this,Int.add_mul,Int.one_mul]
 rw [h4]
 dsimp only
 omega

/-! ### The law of bounds -/
theorem R02:Qu 9000100=some true:=by
 have ex1:Ho 9000100 ⟨[[1,3,2],[4],[]],3⟩ [1,2,3,4]=some ([⟨0,1⟩,⟨0,2⟩],0):=by kernel_rfl
 have ex2:Ho 9000100 ⟨[[1,2],[3,4]],2⟩ [1,2,3,4]=some ([],360):=by kernel_rfl
 have ex3:Ho 9000100 ⟨[[1,3],[2]],2⟩ [1,2,3]=some ([],360):=by kernel_rfl
 have ex4:Ho 9000100 ⟨[[1,3],[2,4],[]],2⟩ [1,2,3,4]=some ([⟨1,2⟩,⟨0,2⟩],0):=by kernel_rfl
 have R93:J8 9000100 ⟨[[1,3,2],[4],[]],3⟩ [1,2,3,4]=some ([⟨0,1⟩,⟨0,2⟩],0):=by kernel_rfl
 have R92:J8 9000100 ⟨[[1,2],[3,4]],2⟩ [1,2,3,4]=some ([],6):=by kernel_rfl
 have R91:J8 9000100 ⟨[[1,3],[2]],2⟩ [1,2,3]=some ([],6):=by kernel_rfl
 refine Y4 ?_
 unfold Qu
 refine Gk exW (Gk (G3b (by decide) (by decide) ex1) (Gk R93 (Gk exC ?_)))
 refine Gk (Ge5 [2,3]) (G67 (x:=true) rfl (G8a [⟨0,1⟩,⟨0,2⟩]) (G67 (x:=true) rfl (G8a [⟨0,1⟩,⟨0,2⟩]) ?_))
 refine Gk (x:=0) rfl (Gk (x:=0) rfl (Gk (x:=0) rfl (Hs (fun h=>absurd h (show ¬ ((!true||!true||!true||!true||decide ((0:Int)≠0))=true) by decide)) (fun _=>?_))))
 refine Gk (G3b (by decide) (by decide) ex2) (Gk R92 (Gk (x:=3) rfl (Gk (G3b (by decide) (by decide) ex3) (Gk (x:=3) rfl (Gk R91 (Hs (fun h=>absurd h (show ¬ ((decide ((360:Int)≠360)||decide ((6:Int)≠6)||decide ((360:Int)≠360)||decide ((6:Int)≠6))=true) by decide)) (fun _=>?_)))))))
 exact Gk (G3b (by decide) (by decide) ex4) (G67 (x:=true) rfl (G8a [⟨1,2⟩,⟨0,2⟩]) (Hq rfl))
theorem Je9 (stacks height:Int) (l o:List Int) (moves:List G3) (hs:0≤stacks∧stacks≤255) (hh:0≤height∧height≤255) (hl:∀ v∈l,0≤v∧v≤255) (ho:∀ v∈o,0≤v∧v≤255):Rc 9000100 stacks height l o moves=some true:=by
 refine Y4 ?_
 unfold Rc
 refine Gk R02 (Hs (fun h=>by cases h) (fun _=>?_))
 refine Z6 (wp_mono (Q5e hs hh hl) (fun y hy=>?_))
 obtain⟨hm,hr⟩:=hy
 refine Z6 (wp_mono (J67 (F:=9000100) (by decide) hm.len hr.nodup ho (by decide)) (fun order hO=>?_))
 obtain⟨b9,hO⟩:=hO
 obtain⟨ss,H⟩:=y
 have hr:Jv ss H:=hr
 have hR:Yk ss H order:=⟨hr,hO⟩
 have hB:Qm ⟨ss,H⟩ order=some (((Q1 order ss).length:Int),0):=by rw [G3a,if_pos hR]
 have hW:Yv ⟨ss,H⟩ order=some (G0f (Q1 order ss),0):=by rw [R47,if_pos hR]
 have b0:Qa ⟨ss,H⟩ order=some (decide (((Q1 order ss).length:Int)=0),0):=by
  unfold Qa; rw [hB]; rfl
 refine Gk hW (Gk hB (Gk b0 (Hs (fun h=>?_) (fun _=>?_))))
 ·rw [G81] at h
  simp at h
 refine H28 (fun _=>True) (fun K hK=>?_) (fun _ _=>?_)
 ·refine Hs (fun a4=>?_) (fun _=>hK _ trivial)
  have a4:moves.length≤60:=by have:=Ep a4; omega
  obtain⟨ok,hc,a0⟩:=Hde hR (p:=moves) (by omega)
  have h6:=hc
  rw [J52] at h6
  unfold Q58 at h6
  rw [if_pos hR] at h6
  have h6:=Ex h6
  have h7:ok=(decide ((Yx ss H moves).2.2.2=0)&&decide ((Q1 order (Yx ss H moves).1).length=0)):=(congrArg Prod.fst h6).symm
  refine Gk hc (Gk (Q8f ss H moves) ?_)
  have b1:∃ z,Qa ⟨(Yx ss H moves).1,(Yx ss H moves).2.1⟩ order=some z∧(decide ((Yx ss H moves).2.2.2=0)&&z.1)=ok:=by
   by_cases h0:(Yx ss H moves).2.2.2=0
   ·have e:=Gb2 (l:=moves) hr (by omega)
    have a5:(Rv H.toNat ss 0 moves).2.2=0:=by
     rw [e] at h0
     by_cases g:(Rv H.toNat ss 0 moves).2.2=0
     ·exact g
     ·rw [if_neg g] at h0; exact h0
    have e2:Yx ss H moves=((Rv H.toNat ss 0 moves).1,H,(Rv H.toNat ss 0 moves).2):=by rw [e,if_pos a5]
    have h8:run H.toNat ss moves=some (Rv H.toNat ss 0 moves).1:=by rw [J21 moves ss 0,if_pos a5]
    obtain⟨r1,r2,_⟩:=J75 hr h8
    have b2:Yk (Rv H.toNat ss 0 moves).1 H order:=⟨r1,hO.nodup,fun b hb=>(r2 b).2 (hO.in_ b hb)⟩
    refine⟨(decide (((Q1 order (Rv H.toNat ss 0 moves).1).length:Int)=0),0),?_,?_⟩
    ·rw [e2]
     unfold Qa
     rw [G3a,if_pos b2]; rfl
    ·rw [h7,Es h0,e2]
     exact congrArg (true&&·) (decide_eq_decide.2 (by dsimp only; omega))
   ·have e2:(⟨(Yx ss H moves).1,(Yx ss H moves).2.1⟩:Gq)=⟨[],0⟩:=by
     have e:=Gb2 (l:=moves) hr (by omega)
     rw [e] at h0 ⊢
     by_cases g:(Rv H.toNat ss 0 moves).2.2=0
     ·rw [if_pos g] at h0; exact absurd g h0
     ·rw [if_neg g]
    have b3:¬ Yk [] 0 order:=fun g=>by have:=g.y.low; omega
    refine⟨(false,2),?_,?_⟩
    ·rw [e2]
     unfold Qa
     rw [G3a,if_neg b3]; rfl
    ·rw [h7,Eu h0]; rfl
  obtain⟨z,b4,b5⟩:=b1
  refine Gk b4 (Hs (fun h=>?_) (fun _=>hK _ trivial))
  exfalso
  rw [b5] at h
  cases hk:ok with
  | false=>rw [hk] at h; simp at h
  | true=>
   rw [hk] at h
   simp at h
   obtain⟨t,ht,hw⟩:=a0.1 hk
   have:=Ja0 (order:=order) ht
   rw [hw] at this
   simp at this
   omega
 ·obtain⟨la,ea,hA,_,c0,h5⟩:=Hc1 (F:=9000100) (by decide) ss H (order:=order) (by omega)
  have h5:=h5 hR
  refine Gk hA (Hs (fun h=>?_) (fun _=>?_))
  ·exfalso
   rcases h5 with ⟨rfl,rfl,h3⟩ | ⟨rfl,_⟩
   ·have:(Q1 order ss).length≠0:=fun e=>h3 (Ej e)
    simp at h
    exact h3 h
   ·simp at h
  have a8:la.length≤180∨la=[]:=by
   rcases h5 with ⟨_,h2,_⟩ | ⟨_,t,_,_,h4⟩
   ·exact .inr h2
   ·have:=(G90 order ss).length_le
    have:=hr.all
    exact .inl (by omega)
  obtain⟨ok,hc,a0⟩:=Hde hR (p:=la.map mv) (by
   rw [Kk]
   rcases a8 with h | h
   ·omega
   ·rw [h]; simp)
  refine Gk hc (Hs (fun h=>?_) (fun _=>?_))
  ·exfalso
   rcases h5 with ⟨rfl,rfl,h3⟩ | ⟨rfl,t,h2,h3,h4⟩
   ·simp at h
   ·have:=a0.2 ⟨t,h2,h3⟩
    rw [this] at h
    simp at h
    omega
  by_cases a9:5 < ss.flatten.length∨4 < ss.length
  ·obtain⟨lb,eb,hL,_,_,b6,_⟩:=Jfc (F:=9000100) (by decide) ss H order
   obtain⟨rfl,rfl⟩:=b6 hR a9
   refine Gk hL (Hs (fun _=>?_) (fun h=>by simp at h))
   refine Gk (R45 hr) ?_
   have a6:=hm.most
   have a6:ss.length≤6:=a6
   have h9:=hr.low
   have a2:=hr.high
   have h1:(ss.length:Int)*H≤6*6:=Int.mul_le_mul (by omega) a2 (by omega) (by omega)
   have h2:0≤(ss.length:Int)*H:=Int.mul_nonneg (by omega) (by omega)
   have c1:=hr.all
   refine Q6 (by dsimp only; omega) (Q6 (by dsimp only; omega) (Hq ?_))
   rw [Kr,Kj,Kj]
   dsimp only
   omega
  ·rcases Jfb (F:=9000100) (by decide) hR (by omega) (by omega) with ⟨p,t,hL,c2,h8,a7,a1⟩ | ⟨hL,a3⟩
   ·refine Gk hL (Hs (fun h=>by simp at h) (fun _=>Hs (fun h=>by simp at h) (fun _=>?_)))
    have h9:=Ja0 (order:=order) h8
    rw [a7] at h9
    have hp:p.length≤10000:=by omega
    obtain⟨ok2,b7,h7⟩:=Hde hR (p:=p) hp
    refine Gk b7 (Hq ?_)
    have:=h7.2 ⟨t,h8,a7⟩
    rw [this]
    rcases h5 with ⟨rfl,rfl,h3⟩ | ⟨rfl,u,h2,h3,h4⟩
    ·simp at h9 ⊢
     omega
    ·have b8:p.length≤(la.map mv).length:=by
      rcases a1 _ _ h2 h3 with e | e | e
      ·rw [e]; exact K0
      ·omega
      ·omega
     rw [Kk] at b8
     simp at h9 ⊢
     omega
   ·refine Gk hL (Hs (fun h=>by simp at h) (fun _=>Hs (fun _=>Hq ?_) (fun h=>by simp at h)))
    rcases h5 with ⟨rfl,rfl,h3⟩ | ⟨rfl,u,h2,h3,h4⟩
    ·rfl
    ·exact absurd h3 (a3 _ _ h2)
end Go.Proofs.Ytokjlondbjdlfaa
