/-
 SearchWrong: Least: SearchWrong.
-/
import Derived.Test.YtibhpogonkdiaaaGreatSeaK
import Derived.Test.YtibhpogonkdiaaaGreatXX
set_option linter.unusedVariables false
set_option linter.unusedSimpArgs false
set_option linter.unnecessarySimpa false
set_option maxRecDepth 100000
namespace Go.Proofs.YtibhpogonkdiaaaGreat
open Go.RowKit

def Jbc (i:Nat):G5:=G5.mk (20+(i:Int)) 0 false 1 0 0 0 0 [] 0 0 0
def G91 (s:Ge) (k:Nat):List G5:=s.Columns++(List.range k).map Jbc
def Rcf (s:Ge) (k:Nat):Ge:=Ge.mk (G91 s k) s.Covers s.Light s.Rows s.Frames s.Tanks s.Gg
theorem Hed (s:Ge) (k:Nat):(G91 s k).length=s.Columns.length+k:=by simp [G91]
theorem J50 (s:Ge) (k:Nat):G91 s (k+1)=G91 s k++[Jbc k]:=by
 unfold G91
 rw [List.range_succ,List.map_append,List.map_singleton,List.append_assoc]
theorem Qd5 {i:Nat} (hi:i≤4):Z9 (Jbc i)=some true:=by
 unfold Z9 Jbc
 simp only
 rw [each,J78]
 ·rfl
 ·intro x hx
  simp only [Mi,M2,or_false] at hx
  rcases hx with rfl | rfl | rfl | rfl | rfl | rfl | rfl | rfl | rfl | rfl <;> simp only <;> omega
theorem Q2c {s:Ge} (h:H85 s) {k:Nat} (hk:k≤4):Jm (Rcf s k)=some true:=by
 obtain⟨⟨a1,a2,a3⟩,a4,a5,a6⟩:=He2 h
 have hc:=h.cols.len
 have hl:=Hed s k
 refine J22 ⟨⟨by show 1≤(G91 s k).length; omega,by show (G91 s k).length≤200; omega,a3⟩,fun c h0=>?_,a5,?_⟩
 ·rcases Mf.1 h0 with h0 | h0
  ·exact a4 c h0
  ·obtain⟨i,hi,rfl⟩:=Mg.1 h0
   exact Qd5 (by have:=List.mem_range.1 hi; omega)
 ·show ((s.Columns++(List.range k).map Jbc).map k3++s.Covers.flatMap x3).Nodup
  obtain⟨b1,b2,b3⟩:=List.nodup_append.1 a6
  rw [List.map_append]
  refine List.nodup_append.2 ⟨List.nodup_append.2 ⟨b1,?_,fun a ha b hb e=>?_⟩,b2,fun a ha b hb e=>?_⟩
  ·rw [List.map_map]
   refine List.pairwise_map.2 (List.nodup_range.imp fun {i j} h2 e=>h2 ?_)
   simp only [Function.comp,Jbc,k3,H4.mk.injEq] at e
   omega
  ·obtain⟨c',h1,rfl⟩:=Mg.1 hb
   obtain⟨i,hi,rfl⟩:=Mg.1 h1
   obtain⟨c,h0,rfl⟩:=Mg.1 ha
   have:=(h.cols.each c h0).bay
   simp only [k3,Jbc,H4.mk.injEq] at e
   omega
  ·rcases Mf.1 ha with ha | ha
   ·exact b3 a ha b hb e
   ·obtain⟨c',h1,rfl⟩:=Mg.1 ha
    obtain⟨i,hi,rfl⟩:=Mg.1 h1
    obtain⟨x,hx,h3⟩:=List.mem_flatMap.1 hb
    obtain⟨r,_,rfl⟩:=Mg.1 h3
    have:=(h.covs.each x hx).bay
    simp only [k3,Jbc,H4.mk.injEq] at e
    omega
theorem Q2b {s:Ge} (h:4≤s.Columns.length):Q3 s=some false:=by
 unfold Q3
 have hd:decide ((s.Columns.length:Int)≤3)=false:=Kx (by omega)
 rw [hd]
 rfl
theorem Q58 {s:Ge} {boxes:List Box} {calls:Int} (hr:Jm s=some true) (hl:Q3 s=some false):Jo s boxes calls=some false:=by
 unfold Jo
 rw [hr,hl]
 rfl
theorem H01 {F:Nat} {s:Ge} {boxes:List Box} {calls:Int} (h:Jo s boxes calls=some false):J1 F s boxes calls=some (G4f.mk [] [],0,5):=by
 unfold J1
 rw [h]
 rfl
def two:List Box:=[(Box.mk 2 ByteArray.empty 40 false 0 0 1 0 false),(Box.mk 4 ByteArray.empty 20 false 0 0 1 0 false)]
theorem R2a {s:Ge} (hr:Jm s=some true) (hl:Q3 s=some true):Jo s two 2=some false:=by
 unfold Jo
 rw [hr,hl]
 kernel_rfl
theorem Qce {s:Ge} {boxes:List Box} {calls:Int} (hr:Jm s=some true) (hl:Q3 s=some true) (hc:4 < calls):Jo s boxes calls=some false:=by
 unfold Jo
 rw [hr,hl,Kw hc]
 rfl
theorem R2b {s:Ge} {calls:Int} (hr:Jm s=some true) (hl:Q3 s=some true) (hc:calls≤1):Jo s (two.take 1) calls=some false:=by
 have hp:G8b (two.take 1) calls=some false:=by
  unfold G8b
  by_cases h0:calls < 1
  ·rw [Kw h0]; rfl
  ·have:calls=1:=by omega
   subst this
   rfl
 unfold Jo
 rw [hr,hl,hp,Kx (show ¬ 4 < calls by omega)]
 rfl
theorem Q07 {F:Nat} {s:Ge} (hr:Jm s=some true):Jg F s two [2,4]=some ([],2):=by
 unfold Jg
 rw [hr]
 rfl
theorem Q06 {F:Nat} {s:Ge} (hr:Jm s=some true):Jg F s two [2,2]=some ([],2):=by
 unfold Jg
 rw [hr]
 rfl
theorem Q50 {F:Nat} {s:Ge} {n:Int} (hr:Jm s=some true) (hn:5≤n):Jg F s two [n]=some ([],2):=by
 have hf:G5c two n=none:=by
  unfold G5c two
  rw [List.find?_cons_of_neg (by simp; omega),List.find?_cons_of_neg (by simp; omega)]
  rfl
 have h:G1a two n=some (Box.mk 0 ByteArray.empty 0 false 0 0 0 0 false,false):=by rw [H77,hf]
 unfold Jg
 rw [hr]
 simp only [bnd,Bool.not_true,cond_false,each,h]
 rfl
theorem Q4e {F:Nat} {s:Ge} (hr:Jm s=some true) (hl:Q3 s=some false):Jg F s two [2]=some ([],5):=by
 unfold Jg
 rw [hr,hl]
 rfl

theorem Had:∀ (l:List Int) (i:Nat) (b:Int×Int),0≤b.2∨l≠[] →
  (G7c l i b=b∧0≤b.2∧∀ x∈l,b.1≤x)∨∃ j x,l[j]? = some x∧G7c l i b=(x,((i+j:Nat):Int))∧(∀ y∈l,x≤y)∧(∀ j' y,j' < j→l[j']? = some y→x < y)∧(0≤b.2→x < b.1)
 | [],i,b,h=>.inl ⟨rfl,h.elim id (fun h=>(h rfl).elim),fun x hx=>(M2 hx).elim⟩
 | r::l,i,b,h=>by
  have h7:G7c (r::l) i b=G7c l (i+1) (pick r b i):=rfl
  rw [h7]
  cases hc:(decide (b.2 < 0)||decide (r < b.1)) with
  | true=>
   have hp:pick r b i=(r,(i:Int)):=by unfold pick; rw [hc]; rfl
   rw [hp]
   have h6:0≤b.2→r < b.1:=fun h0=>by
    rcases (Bool.or_eq_true_iff).1 hc with h | h
    ·have:=Ku h; omega
    ·exact Ku h
   rcases Had l (i+1) (r,(i:Int)) (.inl (by show (0:Int)≤(i:Int); omega)) with ⟨h1,_,h3⟩ | ⟨j,x,h1,h2,h3,h4,h5⟩
   ·refine .inr ⟨0,r,rfl,by rw [h1]; simp,fun y hy=>?_,fun j' y h8 _=>by omega,h6⟩
    rcases Mi.1 hy with rfl | hy
    ·exact Int.le_refl _
    ·exact h3 y hy
   ·have hx:x < r:=h5 (by show (0:Int)≤(i:Int); omega)
    refine .inr ⟨j+1,x,h1,by rw [h2]; congr 2; omega,fun y hy=>?_,fun j' y h8 hy=>?_,fun h0=>by have:=h6 h0; omega⟩
    ·rcases Mi.1 hy with rfl | hy
     ·omega
     ·exact h3 y hy
    ·cases j' with
     | zero=>cases hy; exact hx
     | succ j'=>exact h4 j' y (by omega) hy
  | false=>
   have hp:pick r b i=b:=by unfold pick; rw [hc]; rfl
   rw [hp]
   obtain⟨h9,a0⟩:=(Mm).1 hc
   have a1:=Kv h9
   have h6:=Kv a0
   rcases Had l (i+1) b (.inl (by omega)) with ⟨h1,h2,h3⟩ | ⟨j,x,h1,h2,h3,h4,h5⟩
   ·refine .inl ⟨h1,h2,fun y hy=>?_⟩
    rcases Mi.1 hy with rfl | hy
    ·omega
    ·exact h3 y hy
   ·have hx:x < b.1:=h5 (by omega)
    refine .inr ⟨j+1,x,h1,by rw [h2]; congr 2; omega,fun y hy=>?_,fun j' y h8 hy=>?_,fun _=>hx⟩
    ·rcases Mi.1 hy with rfl | hy
     ·omega
     ·exact h3 y hy
    ·cases j' with
     | zero=>cases hy; omega
     | succ j'=>exact h4 j' y (by omega) hy
theorem Qe4 {R:List G1→List G1→Int} {all:List (List (List G1))} {d k:Nat} {a:List G1} {L:List (List G1)} (hL:all[k+1]? = some L) (h0:L≠[]) :
  ∃ (j:Nat) (b:List G1),L[j]? = some b∧Zi R all (d+1) k a=(R a b+(Zi R all d (k+1) b).1,(j:Int))∧∀ c∈L,R a b+(Zi R all d (k+1) b).1≤R a c+(Zi R all d (k+1) c).1:=by
 have h4:all.getD (k+1) []=L:=by simp [List.getD,hL]
 have he:Zi R all (d+1) k a=G7c (L.map fun b=>R a b+(Zi R all d (k+1) b).1) 0 (0,-1):=by
  show G7c ((all.getD (k+1) []).map fun b=>R a b+(Zi R all d (k+1) b).1) 0 (0,-1)=_
  rw [h4]
 rw [he]
 rcases Had (L.map fun b=>R a b+(Zi R all d (k+1) b).1) 0 (0,-1) (.inr (by simpa using h0)) with ⟨_,h2,_⟩ | ⟨j,x,h1,h2,h3,_,_⟩
 ·exact absurd h2 (by decide)
 ·rw [M7] at h1
  obtain⟨b,hb,rfl⟩:=Option.map_eq_some_iff.1 h1
  refine⟨j,b,hb,by rw [h2,Nat.zero_add],fun c hc=>h3 _ (Mg.2 ⟨c,hc,rfl⟩)⟩
def H3e (R:List G1→List G1→Int) (all:List (List (List G1))):Nat→Nat→List G1→List (List G1)
 | 0,_,a=>[a]
 | d+1,k,a=>a::H3e R all d (k+1) ((all.getD (k+1) []).getD (Zi R all (d+1) k a).2.toNat [])
theorem Q4d {α:Type} {l:List α} {k:Nat} {x:α} (h:l[k]? = some x):l.take (k+1)=l.take k++[x]:=Hf3 h
theorem Qd9 {R:List G1→List G1→Int} {all:List (List (List G1))} {F n:Nat} {s:Ge} {boxes:List Box} (hS:Jo s boxes (n:Int)=some true) (hn:1≤n∧n≤1000) (hF:n < F) (h8:all.length=n)
  (a7:∀ (i:Nat) L,all[i]? = some L→∃ ids,Rj boxes (i:Int)=some ids∧Q2 F s boxes ids=some L) (h9:∀ L∈all,L≠[]) (b3:∀ L∈all,L.length≤1000000)
  (hR:∀ a b,0≤R a b∧R a b≤1000) (hm:∀ (k:Nat) L L' a b,all[k]? = some L→all[k+1]? = some L'→a∈L→b∈L'→Jd F a b s boxes=some (R a b)) :
  Wp (J1 F s boxes (n:Int)) (fun r=>∃ L0 a0,all[0]? = some L0∧a0∈L0∧(∀ b∈L0,(Zi R all (n - 1) 0 a0).1≤(Zi R all (n - 1) 0 b).1)∧r=(G4f.mk (H3e R all (n - 1) 0 a0) [],(Zi R all (n - 1) 0 a0).1,0)):=by
 obtain⟨n0,n1⟩:=hn
 have h0:=fun(d k j:Nat) (L:List (List G1)) (a:List G1) (m:Gu Gs Gc) h1 h2 h3 h4=>R37 (Rm:=fun z0 z1=>Jd F z0 z1 s boxes) n1 hR hm h8 d k j F L a m h1 h2 h3 h4
 unfold J1
 refine Hh hS ?_
 simp only [Bool.not_true,cond_false]
 refine Rk (Kw (by omega)) ?_
 rw [Int.toNat_natCast]
 refine Hc1 (fun i st=>st=all.take i) rfl (fun i st nx hi hI h6=>?_) (fun st hI=>?_)
 ·subst hI
  obtain⟨L,hL⟩:∃ L,all[i]? = some L:=⟨_,Kz (by omega)⟩
  obtain⟨ids,h1,h2⟩:=a7 i L hL
  have a8:=M1 hL
  have a9:(all.take i).length=i:=by rw [List.length_take]; omega
  refine Hh h1 (Hh h2 (Rk ?_ ?_))
  ·exact G32 (by rw [a9,Mb]; omega) (by omega)
  ·refine Rb (m:=i) rfl (x:=L) (by rw [← Q4d hL]; rw [M8]; simp [hL]) ?_
   refine Q6 (fun h=>?_) (fun _=>h6 _ (Q4d hL).symm)
   have:=Ku h
   exact(h9 L a8 (Kp (by omega))).elim
 ·have hI:st=all:=by rw [hI,← h8,List.take_length]
  subst hI
  obtain⟨L0,h5⟩:∃ L,st[0]? = some L:=⟨_,Kz (by omega)⟩
  have a1:=M1 h5
  refine Rb (m:=0) rfl h5 ?_
  have a2:=h9 L0 a1
  obtain⟨d,hd⟩:∃ d,n=d+1:=⟨n - 1,by omega⟩
  have b0:n - 1=d:=by omega
  rw [b0]
  refine R4 (fun pre (s99:Int×Gu Gs Gc)=>(∃ (j:Nat) (a:List G1),s99.1=(j:Int)∧L0[j]? = some a∧∀ b∈pre,(Zi R st d 0 a).1≤(Zi R st d 0 b).1)∧Good R st n s99.2) ?_ (fun pre y post s99 nx e hI h6=>?_) (fun s99 hI=>?_)
  ·obtain⟨x,hx⟩:∃ x,L0[0]? = some x:=⟨_,Kz (List.length_pos_iff.2 a2)⟩
   exact⟨⟨0,x,rfl,hx,fun b hb=>(M2 hb).elim⟩,Qdd⟩
  ·obtain⟨⟨j,a,h1,h2,h3⟩,hg⟩:=hI
   have hy:L0[pre.length]? = some y:=by rw [e]; simp
   refine G90 (fun q=>(∃ (j:Nat) (a:List G1),q.1=(j:Int)∧L0[j]? = some a∧∀ b∈pre++[y],(Zi R st d 0 a).1≤(Zi R st d 0 b).1)∧Good R st n q.2) (fun K hK=>?_) (fun q hq=>h6 _ hq)
   refine Ht (wp_mono (h0 d 0 pre.length L0 y s99.2 (by omega) h5 hy hg (by omega)) fun r105 a3=>?_)
   obtain⟨p1,p2⟩:=a3
   rw [h1]
   refine Ht (wp_mono (h0 d 0 j L0 a r105.2 (by omega) h5 h2 p2 (by omega)) fun r106 a4=>?_)
   obtain⟨q1,q2⟩:=a4
   rw [p1,q1]
   refine Q6 (fun h=>hK _ ⟨⟨pre.length,y,rfl,hy,fun b hb=>?_⟩,q2⟩) (fun h=>hK _ ⟨⟨j,a,rfl,h2,fun b hb=>?_⟩,q2⟩)
   ·have h:(Zi R st d 0 y).1 < (Zi R st d 0 a).1:=Ku h
    rcases Mf.1 hb with hb | hb
    ·have:=h3 b hb; omega
    ·rw [Mh.1 hb]; exact Int.le_refl _
   ·have h:¬ (Zi R st d 0 y).1 < (Zi R st d 0 a).1:=Kv h
    rcases Mf.1 hb with hb | hb
    ·exact h3 b hb
    ·rw [Mh.1 hb]; omega
  ·obtain⟨⟨j,a,h1,h2,h3⟩,hg⟩:=hI
   rw [h1]
   refine Ht (wp_mono (h0 d 0 j L0 a s99.2 (by omega) h5 h2 hg (by omega)) fun r108 a5=>?_)
   obtain⟨p1,p2⟩:=a5
   refine Rk (Kw (by omega)) ?_
   rw [p1]
   refine Hc1 (fun i (s152:Int×List (List G1)×List (List Int)×Gu Gs Gc)=>s152.2.2.1=[]∧Good R st n s152.2.2.2∧s152.2.1.length=i∧((i=n∧s152.2.1=H3e R st d 0 a)∨∃ (d' j:Nat) (L:List (List G1)) (b:List G1),i+d'+1=n∧s152.1=(j:Int)∧st[i]? = some L∧L[j]? = some b∧s152.2.1++H3e R st d' i b=H3e R st d 0 a)) ⟨rfl,p2,rfl,.inr ⟨d,j,L0,a,by omega,rfl,h5,h2,rfl⟩⟩ (fun i s152 nx hi hI h6=>?_) (fun s152 hI=>?_)
   ·obtain⟨w1,w2,w3,w4⟩:=hI
    rcases w4 with ⟨w4,_⟩ | ⟨d',j',L,b,v1,v2,v3,v4,v5⟩
    ·omega
    rw [v2]
    refine Rb (m:=i) rfl v3 (Rb (m:=j') rfl v4 (Rk ?_ ?_))
    ·exact G32 (by rw [w3,Mb]; omega) (by omega)
    ·refine Ht (wp_mono (h0 d' i j' L b s152.2.2.2 (by omega) v3 v4 w2 (by omega)) fun r163 a6=>?_)
     obtain⟨u1,u2⟩:=a6
     refine h6 _ ⟨w1,u2,by show (s152.2.1++[b]).length=i+1; simp [w3],?_⟩
     cases d' with
     | zero=>exact .inl ⟨by omega,v5⟩
     | succ d'=>
      obtain⟨L',h7⟩:∃ L',st[i+1]? = some L':=⟨_,Kz (by omega)⟩
      obtain⟨j2,b2,x1,x2,x3⟩:=Qe4 (R:=R) (d:=d') (a:=b) h7 (h9 L' (M1 h7))
      refine .inr ⟨d',j2,L',b2,by omega,by show r163.1.next=_; rw [u1,x2]; rfl,h7,x1,?_⟩
      show (s152.2.1++[b])++H3e R st d' (i+1) b2=_
      rw [← v5,List.append_assoc]
      have:H3e R st (d'+1) i b=b::H3e R st d' (i+1) b2:=by
       rw [H3e,x2]
       have b1:st.getD (i+1) []=L':=by simp [List.getD,h7]
       rw [b1]
       simp [List.getD,x1]
      rw [this]; rfl
   ·obtain⟨w1,w2,w3,w4⟩:=hI
    rcases w4 with ⟨_,w4⟩ | ⟨d',j',L,b,v1,_⟩
    ·refine H5 ⟨L0,a,h5,M1 h2,h3,?_⟩
     rw [w1,w4]; rfl
    ·omega

theorem wp_loop {β σ:Type} {Q:β→Prop} (I:σ→Prop) (μ:σ→Nat) {b:(σ→Option β)→σ→Option β} {F:Nat} {s:σ} (h0:I s) (hF:μ s < F)
  (hb:∀ s nx,I s→(∀ s',I s'→μ s' < μ s→Wp (nx s') Q)→Wp (b nx s) Q):Wp (loop b F s) Q:=by
 induction F generalizing s with
 | zero=>omega
 | succ F ih=>
  rw [loop]
  exact hb s _ h0 (fun s' h1 h2=>ih h1 (by omega))
def lowS:Ge:=Ge.mk ([(G5.mk 0 0 false 3 100 0 0 0 [] 0 0 0)]) [] (Light.mk 0 0 0 0) [] [] [] (Gg.mk 0 0 0 0)
def one:List Box:=[(Box.mk 2 ByteArray.empty 40 false 0 0 1 0 false)]
theorem R38:J1 60 lowS one 2=some (G4f.mk [] [],0,4):=by
 rw [Hd7 (s:=lowS) (boxes:=one) (calls:=2) (F:=60) ⟨by kernel_rfl,by decide,by decide⟩ ⟨by unfold one; simp,by unfold one; simp⟩ (by decide) (by decide)]
 kernel_rfl
theorem Jc8 {boxes:List Box}:Whole boxes []:=⟨List.Pairwise.nil,fun id h=>(M2 h).elim⟩
theorem G9d.small {s:Ge} (h:G9d s):Q1d s:=⟨h.right,h.few,fun c hc=>by have:=h.low c hc; omega⟩
theorem G9d.flat {s:Ge} (h:G9d s):∀ c∈s.Columns,c.Height≤0:=fun c hc=>by have:=(h.built.cols.each c hc).height; omega
theorem Jda {s:Ge} {boxes:List Box} (h:G9d s):Qv s boxes []=some true:=by
 obtain⟨r,hr,hi⟩:=Ge2 (boxes:=boxes) (l:=[]) h.right (fun c hc=>by have:=h.low c hc; omega) (by simp)
 have hR:G4e s boxes []:=J51 (F:=1) (ids:=[]) h.flat Jc8 [] (by unfold G26; rw [G9b]; simp)
 rw [hr,hi.2 hR]
theorem Qc5 {s:Ge} {boxes:List Box} (h:G9d s):Q2 60 s boxes []=some [[]]:=by
 rw [Hf5 h.small Jc8 (by decide) (by decide)]
 have hw:G26 60 s []=[[]]:=rfl
 unfold Gcd
 rw [hw]
 show some (H1e Ya (List.filter (fun l=>(Qv s boxes l).getD false) [[]]))=_
 rw [List.filter_cons_of_pos (by rw [Jda h]; rfl)]
 rfl
theorem R69 {F:Nat} {s:Ge} {boxes:List Box} (h:G9d s):Jd F [] [] s boxes=some 0:=by
 unfold Jd Gae
 rw [Jda h]
 rfl
theorem R39 {s:Ge} (h:G9d s):Wp (J1 60 s [] 3) (fun r=>r.2.2=0∧r.2.1=0∧(r.1.States.length:Int)=3):=by
 have hl:=little h.few (fun c hc=>(by have:=h.low c hc; omega:0≤c.Tiers∧c.Tiers≤3))
 have hS:Jo s [] ((3:Nat):Int)=some true:=by
  unfold Jo
  rw [h.right,hl]
  rfl
 have h0:∀ (i:Nat) L,([[[]],[[]],[[]]]:List (List (List G1)))[i]? = some L→L=[[]]:=fun i L hL=>by
  have:=M1 hL
  simpa using this
 refine wp_mono (Qd9 (R:=fun _ _=>0) (all:=[[[]],[[]],[[]]]) (F:=60) (n:=3) hS (by decide) (by decide) rfl (fun i L hL=>?_) (by decide) (by decide) (fun _ _=>by decide) (fun k L L' a b hL h3 ha hb=>?_)) fun r hr=>?_
 ·rw [h0 i L hL]
  exact⟨[],by rw [J23 [] _ (by decide)]; rfl,Qc5 h⟩
 ·rw [h0 k L hL] at ha
  rw [h0 (k+1) L' h3] at hb
  rw [Mh.1 ha,Mh.1 hb]
  exact R69 h
 ·obtain⟨L0,a0,h1,h2,_,rfl⟩:=hr
  exact⟨rfl,rfl,rfl⟩
theorem Qda (l:List H2) (covers n:Int) (hp:∀ p∈l,H84 p):Rn 60 l covers n=some true:=by
 refine H46 ?_
 unfold Rn
 refine Ht (wp_mono (Jc9 l covers hp) fun s hs=>?_)
 have hl:=little hs.few (fun c hc=>(by have:=hs.low c hc; omega:0≤c.Tiers∧c.Tiers≤3))
 have h5:=hs.built.some
 have h6:=hs.few
 refine wp_loop (fun st=>∃ k:Nat,k≤3∧st=((k:Int),G91 s k,s.Covers,s.Light.Kilos,s.Light.X,s.Light.Y,s.Light.Z,s.Rows,s.Frames,s.Tanks,s.Gg.Tolerance,s.Gg.Trim,s.Gg.List_,s.Gg.Stability)) (fun st=>4 - st.2.1.length) ⟨0,by omega,by simp [G91]⟩ (by show 4 - _ < 60; omega) (fun st nx hI h2=>?_)
 obtain⟨k,hk,rfl⟩:=hI
 have h4:=Hed s k
 refine Q6 (fun h=>?_) (fun h=>?_)
 ·have h:((G91 s k).length:Int) < 4:=Ku h
  refine Rk (G32 (by show ([]:List G5).length+(G91 s k).length≤_; simp only [List.length_nil]; omega) (by omega)) (R3 ⟨by show -9223372036854775808≤(20:Int)+(k:Int); omega,by show (20:Int)+(k:Int)≤_; omega⟩ (Rk (G32 (by show ([]++G91 s k).length+1≤_; simp only [List.nil_append]; omega) (by omega)) (R3 ⟨by show -9223372036854775808≤(k:Int)+1; omega,by show (k:Int)+1≤_; omega⟩ (h2 _ ⟨k+1,by omega,?_⟩ ?_))))
  ·show ((k:Int)+1,([]++G91 s k)++[Jbc k],s.Covers,s.Light.Kilos,s.Light.X,s.Light.Y,s.Light.Z,s.Rows,s.Frames,s.Tanks,s.Gg.Tolerance,s.Gg.Trim,s.Gg.List_,s.Gg.Stability)=_
   rw [List.nil_append,← J50]
   rfl
  ·show 4 - (([]++G91 s k)++[Jbc k]).length < 4 - (G91 s k).length
   rw [List.nil_append,← J50,Hed]
   omega
 ·have h:¬ ((G91 s k).length:Int) < 4:=Kv h
  have h0:=Q2c hs.built (k:=k) (by omega)
  have h1:Q3 (Rcf s k)=some false:=Q2b (by show 4≤(G91 s k).length; omega)
  refine Hh (Q07 hs.right) (Hh (Q06 hs.right) (Hh (Q50 hs.right (show 5≤max n 5 by omega)) (Hh (Q4e h0 h1) (Hh (H01 (R2a hs.right hl)) ?_))))
  refine Hh (x:=1) rfl (Hh (H01 (Q58 h0 h1)) ?_)
  refine Hh (x:=1) rfl (Hh (H01 (Qce hs.right hl (show 4 < max n 5 by omega))) ?_)
  refine Hh (x:=1) rfl (Hh (H01 (R2b hs.right hl (show min n 1≤1 by omega))) ?_)
  refine Hh (x:=1) rfl (Hh R38 ?_)
  refine Ht (wp_mono (R39 hs) fun r62 h3=>?_)
  obtain⟨e1,e2,e3⟩:=h3
  rw [e1,e2,e3]
  refine Hh R0b (H5 rfl)
end Go.Proofs.YtibhpogonkdiaaaGreat
