/-
 The ships that twistlocklaw07.Built makes,and that they are What slot.Right,stow.Find and stow.Right say,in plain words.
-/
import Derived.Test.YtibhpogonkdiaaaGreatXV
set_option maxRecDepth 100000
namespace Go.Proofs.YtibhpogonkdiaaaGreat
open Go.RowKit

theorem Qp {n k:Nat} (hn:n<=1000001) (hk:k<=1000):decide (n*k<=140737488355328∧n<=maxLen)=true:=by
 have h:n*k<=1000001*1000:=Nat.mul_le_mul hn hk;have h2:n<=maxLen:=Nat.le_trans hn (by decide);grind
def Byte (z:Int):Prop:=0<=z∧z<=255
structure vF (p:Hc):Prop where
 bay:Byte p.Bay
 row:Byte p.Row
 BS:Byte p.Tiers

structure J54 (c:G7):Prop where
 bay:0<=c.Bay∧c.Bay<=4
 row:0<=c.Row∧c.Row<=4
 BS:2<=c.Tiers∧c.Tiers<=5
 height:c.Height=0
 k20:c.BN=500000000
 k40:c.BM=500000000
 lash:c.Lash=0
 plugs:c.BO=[]
 x : -26000<=c.X∧c.X<=26000
 y : -5000<=c.Y∧c.Y<=5000
 z:0<=c.Z∧c.Z<=20000
def J8d (c:G7):Int×Int×Bool:=(c.Bay,c.Row,c.Deck)
def nO (bay row:Int) (deck:Bool) (c:G7):Bool:=((decide (c.Bay=bay))&&(decide (c.Row=row)))&&(c.Deck==deck)
variable {c:G7}
theorem H8c {bay row:Int} {deck:Bool} :nO bay row deck c=true ↔ J8d c=(bay,row,deck):=by
 simp [nO,J8d,and_assoc]
structure Gee (x:Gy):Prop where
 bay:0<=x.Bay∧x.Bay<=4
 rows:x.Rows=[0,1]∨x.Rows=[2,3,4]
def H2f (x:Gy):Int×Bool:=(x.Bay,decide (x.Rows=[0,1]))
structure Je1 (l:List G7):Prop where
 len:l.length<=12
 each:∀ c∈l,J54 c
 nodup:(l.map J8d).Nodup
structure Q59 (l:List Gy):Prop where
 len:l.length<=10
 each:∀ x∈l,Gee x
 nodup:(l.map H2f).Nodup
structure pI (s:Gc):Prop where
 some:1<=s.AB.length
 BU:Je1 s.AB
 covs:Q59 s.AR

theorem G73 {l:List G7} {wanted:G7->Option Bool} {p:G7->Bool} (hw:∀ x∈l,wanted x=some (p x)) (hl:l.length<=1000000):Zb l wanted=some (mW p l):=by
 refine eF ?_;unfold Zb;refine Ja (fun pre s=>s=mW p pre) rfl (fun pre x post s nx e hs h0=>?_) (fun s hs=>Gx hs);subst hs;have h1:pre.length+1<=l.length:=by rw [e]; simp
 refine Rz (fun j=>j=mW p (pre++[x])) (fun K hK=>?_) (fun j hj=>h0 _ hj);refine Gv (hw x (by rw [e]; simp)) (Hr (fun h=>Ji ?_ (hK _ ?_)) (fun h=>hK _ ?_))
 ·have:=ZR p pre;exact Qp (by rw [Sp]; omega) (by omega)
 ·rw [yI,h]; rfl
 ·rw [yI,h]; simp

variable {s:Gc}
theorem J86 {bay row:Int} {deck:Bool} (hl:s.AB.length<=1000000):Wp (oF s bay row deck) (fun r=>r.2=s.AB.any (nO bay row deck)):=by
 unfold oF;refine Gv (G73 (p:=nO bay row deck) (fun x _=>rfl) hl) (Hr (fun h=>Gx ?_) (fun h=>?_))
 ·have h0:mW (nO bay row deck) s.AB=[]:=by
   have:=S6 h;exact List.length_eq_zero_iff.1 (by omega)
  refine Eq.symm (List.any_eq_false.2 (fun x hx=>?_));rw [JK.1 h0 x hx]; exact Bool.false_ne_true
 ·have h0:mW (nO bay row deck) s.AB≠[]:=by
   have:=S7 h;intro e; rw [e] at this; exact this rfl
  have h1:∃ z,(mW (nO bay row deck) s.AB)[0]? = some z:=by
   cases hh:mW (nO bay row deck) s.AB with
   | nil=>exact(h0 hh).elim
   | cons z r=>exact⟨z,rfl⟩
  obtain⟨z,hz⟩:=h1;refine Jk (m:=0) rfl hz (Gx ?_);refine Eq.symm ?_;have:¬ ∀ x∈s.AB,nO bay row deck x=false:=fun h=>h0 (JK.2 h);grind

theorem ZX (l:List Hc) (BB:Int) (hp:∀ p∈l,vF p):Wp (Yi l BB) (fun s=>pI s∧s.AB.length<=max 1 l.length):=by
 unfold Yi;refine H6 (aY (m:=min l.length 12) (by omega) (by omega) ?_);have h4:(l.take (min l.length 12)).length<=12:=by rw [List.length_take]; omega
 refine Ja (fun pre s=>∃ BU,s=([],0,0,0,0,[],[],[],0,0,0,0,BU)∧BU.length<=pre.length∧(∀ c∈BU,J54 c)∧(BU.map J8d).Nodup)
  ⟨[],rfl,Sf,fun c hc=>(Se hc).elim,List.nodup_nil⟩ (fun pre y post s nx e hs h5=>?_) (fun s hs=>?_)
 ·obtain⟨BU,rfl,h1,h2,h3⟩:=hs;have h7:pre.length+1<=12:=by rw [e] at h4; simp at h4; omega
  have hy:vF y:=hp y (List.mem_of_mem_take (by rw [e]; simp:y∈l.take (min l.length 12)));obtain⟨⟨b1,b2⟩,⟨r1,r2⟩,⟨t1,t2⟩⟩:=hy;refine Rz (fun j=>j.length<=(pre++[y]).length∧(∀ c∈j,J54 c)∧(j.map J8d).Nodup) (fun K hK=>?_) (fun j hj=>h5 _ ⟨j,rfl,hj⟩);refine Hy ⟨by omega,by omega⟩ (H6 (gS (by omega) ?_));refine Hy ⟨by omega,by omega⟩ (H6 (gS (by omega) ?_));refine Hy ⟨by omega,by omega⟩ (H6 (gS (by omega) ?_));have e1:y.Bay.tmod 5=y.Bay % 5:=Int.tmod_eq_emod_of_nonneg b1;have e2:y.Row.tmod 5=y.Row % 5:=Int.tmod_eq_emod_of_nonneg r1;have e3:y.Tiers.tmod 4=y.Tiers % 4:=Int.tmod_eq_emod_of_nonneg t1;rw [e1,e2,e3];refine Hy ⟨by omega,by omega⟩ (Hy ⟨by omega,by omega⟩ (Hy ⟨by omega,by omega⟩ (Hy ⟨by omega,by omega⟩ (Hy ⟨by omega,by omega⟩ ?_))));refine Rz (fun z:Int=>0<=z∧z<=20000) (fun K' h0=>Hr (fun _=>h0 _ ⟨by omega,by omega⟩) (fun _=>h0 _ ⟨by omega,by omega⟩)) (fun z hz=>?_);have hl:BU.length<=1000000:=by omega
  refine H6 (wp_mono (J86 hl) (fun r hr=>?_));refine Hr (fun h=>Ji ?_ (hK _ ⟨?_,?_,?_⟩)) (fun h=>hK _ ⟨?_,h2,h3⟩)
  ·exact Qp (by rw [Sp]; show BU.length+1<=_; omega) (by omega)
  ·simp only [Sn,Sp]; omega
  ·intro c hc;rcases St.1 hc with hc | hc
   ·exact h2 c hc
   ·rw [Sv] at hc; subst hc;exact⟨⟨by simp only; omega,by simp only; omega⟩,⟨by simp only; omega,by simp only; omega⟩,⟨by simp only; omega,by simp only; omega⟩,rfl,rfl,rfl,rfl,rfl,⟨by simp only; omega,by simp only; omega⟩,⟨by simp only; omega,by simp only; omega⟩,hz⟩
  ·rw [List.map_append,List.nodup_append];refine⟨h3,by simp,fun a ha b hb=>?_⟩;simp only [List.map_cons,List.map_nil,Sv] at hb;subst hb;obtain⟨c,hc,rfl⟩:=Su.1 ha;intro he;have hf:r.2=false:=by simpa using h
   rw [hf] at hr;have:=List.any_eq_false.1 hr.symm c hc;exact this (H8c.2 he)
  ·simp only [Sn,Sp]; omega
 ·obtain⟨BU,rfl,h1,h2,h3⟩:=hs;have h6:BU.length<=max 1 l.length:=by rw [List.length_take] at h1; omega
  have h1:BU.length<=12:=Nat.le_trans h1 h4;refine Rz (fun j=>1<=j.length∧j.length<=max 1 l.length∧Je1 j) (fun K hK=>Hr (fun h=>hK _ ⟨Sf,by simp only [Sp]; omega,?_⟩) (fun h=>hK _ ⟨?_,h6,⟨h1,h2,h3⟩⟩)) (fun cols' hc=>?_)
  ·refine⟨by simp,fun c hc=>?_,by simp⟩;rw [Sv] at hc; subst hc;exact⟨by simp,by simp,by simp,rfl,rfl,rfl,rfl,rfl,by simp,by simp,by simp⟩
  ·have:¬ ((BU.length:Int)=0):=S7 h;show 1<=BU.length
   omega
  refine Ji (by decide) ?_;have e5:(5:Int).toNat=5:=rfl;rw [e5];refine iK (fun i s=>∃ covs,s=(covs,0,0,0,0,[],[],[],0,0,0,0)∧covs.length<=2*i∧(∀ x∈covs,Gee x∧x.Bay < i)∧(covs.map H2f).Nodup)
   ⟨[],rfl,Nat.zero_le _,fun c hc=>(Se hc).elim,List.nodup_nil⟩ (fun i s nx hi hs h5=>?_) (fun s hs=>?_)
  ·obtain⟨covs,rfl,g1,g2,g3⟩:=hs;refine Rz (fun j:List Gy=>j.length<=2*(i+1)∧(∀ x∈j,Gee x∧x.Bay < (i+1:Nat))∧(j.map H2f).Nodup) (fun K hK=>?_) (fun j hj=>h5 _ ⟨j,rfl,hj⟩);refine Rz (fun j:List Gy=>j.length<=2*i+1∧(∀ x∈j,Gee x∧(x.Bay < i∨x=⟨i,[0,1]⟩))∧(j.map H2f).Nodup) (fun K' h0=>?_) (fun j hj=>?_)
   ·refine Hy ⟨by omega,by omega⟩ (H6 (aY (m:=2*i) (by omega) (by omega) ?_));refine Hr (fun h=>Ji ?_ (h0 _ ⟨?_,?_,?_⟩)) (fun h=>h0 _ ⟨(by show covs.length<=_; omega),fun x hx=>⟨(g2 x hx).1,.inl (g2 x hx).2⟩,g3⟩)
    ·exact Qp (by rw [Sp]; show covs.length+1<=_; omega) (by omega)
    ·simp only [Sn,Sp]; omega
    ·intro x hx;rcases St.1 hx with hx | hx
     ·exact⟨(g2 x hx).1,.inl (g2 x hx).2⟩
     ·rw [Sv] at hx; subst hx;exact⟨⟨⟨by simp only; omega,by simp only; omega⟩,.inl rfl⟩,.inr rfl⟩
    ·rw [List.map_append,List.nodup_append];refine⟨g3,by simp,fun a ha b hb=>?_⟩;simp only [List.map_cons,List.map_nil,Sv] at hb;subst hb;obtain⟨c,hc,rfl⟩:=Su.1 ha;intro he;have:=(g2 c hc).2;have e2:c.Bay=i:=congrArg Prod.fst he;omega
   ·obtain⟨q1,q2,q3⟩:=hj;refine Hy ⟨by omega,by omega⟩ (Hy ⟨by omega,by omega⟩ (H6 (aY (m:=2*i+1) (by omega) (by omega) ?_)));refine Hr (fun h=>Ji ?_ (hK _ ⟨?_,?_,?_⟩)) (fun h=>hK _ ⟨by omega,fun x hx=>⟨(q2 x hx).1,?_⟩,q3⟩)
    ·exact Qp (by rw [Sp]; omega) (by omega)
    ·simp only [Sn,Sp]; omega
    ·intro x hx;rcases St.1 hx with hx | hx
     ·refine⟨(q2 x hx).1,?_⟩;rcases (q2 x hx).2 with h | h
      ·omega
      ·rw [h]; simp only; omega
     ·rw [Sv] at hx; subst hx;exact⟨⟨⟨by simp only; omega,by simp only; omega⟩,.inr rfl⟩,by simp only; omega⟩
    ·rw [List.map_append,List.nodup_append];refine⟨q3,by simp,fun a ha b hb=>?_⟩;simp only [List.map_cons,List.map_nil,Sv] at hb;subst hb;obtain⟨c,hc,rfl⟩:=Su.1 ha;intro he;rcases (q2 c hc).2 with h | h
     ·have e2:c.Bay=i:=congrArg Prod.fst he;omega
     ·rw [h] at he;have e2:=congrArg Prod.snd he;simp [H2f] at e2
    ·rcases (q2 x hx).2 with h | h
     ·omega
     ·rw [h]; simp only; omega
  ·obtain⟨covs,rfl,g1,g2,g3⟩:=hs;exact Gx ⟨⟨hc.1,hc.2.2,⟨g1,fun x hx=>(g2 x hx).1,g3⟩⟩,hc.2.1⟩
theorem GJ {l:List J0} (h:∀ x∈l,x.low<=x.n∧x.n<=x.high):eP l=some true:=by
 refine eF ?_;unfold eP;refine Ja (fun _ _=>True) trivial (fun pre x post s nx e _ h0=>Hr (fun hc=>?_) (fun _=>h0 _ trivial)) (fun s _=>Gx);grind
theorem H1c (h:J54 c):Zx c=some true:=by
 obtain⟨h1,h2,h3,h4,h5,h6,h7,h8,h9,h0,a0⟩:=h;unfold Zx;rw [h8,each];rw [GJ]
 ·rfl
 ·intro x hx;simp only [Sw,Se,or_false] at hx;rcases hx with rfl | rfl | rfl | rfl | rfl | rfl | rfl | rfl | rfl | rfl <;> simp only <;> omega

variable {κ:Type}
theorem J76 {ν:Type} [DecidableEq κ] {a:κ} {v:ν} {l:List (κ×ν)} {e:κ×ν} (h:e∈iW l a v):e=(a,v)∨e∈l:=by
 unfold iW at h;grind
structure H26 {κ:Type} [DecidableEq κ] (ks:List κ) (m:Gw κ Int):Prop where
 get:∀ k,Gw.get m k 0=if k∈ks then 1 else 0
 le:∀ e∈Gw.l m,e.2<=1
theorem H26.start [DecidableEq κ]:H26 ([]:List κ) (Gw.empty:Gw κ Int):=⟨fun k=>by simp [Gw.get,Gw.empty,fL],fun e he=>by simp [Gw.empty] at he⟩
theorem H26.snoc [DecidableEq κ] {ks:List κ} {m:Gw κ Int} (h:H26 ks m) {k:κ} (hk:k ∉ ks) {v:Int} (hv:v=1):H26 (ks++[k]) (Gw.put m k v):=by
 subst hv;refine⟨fun j=>?_,fun e he=>?_⟩
 ·have:=h.get j;unfold Gw.get Gw.put at *;simp only [mV];grind
 ·rcases J76 he with rfl | he
  ·exact Int.le_refl _
  ·exact h.le e he

def dk (b:Bool):Int:=bif b then 1 else 0
def k3 (c:G7):Hk:=⟨c.Bay,c.Row,dk c.Deck⟩
def x3 (x:Gy):List Hk:=x.Rows.map fun r=>⟨x.Bay,r,2⟩
structure Jd1 (s:Gc):Prop where
 some:1<=s.AB.length∧s.AB.length<=200∧s.AR.length<=40
 col:∀ c∈s.AB,Zx c=Option.some true
 cov:∀ x∈s.AR,0<=x.Bay∧x.Bay < 40∧x.Rows≠[]∧(∀ r∈x.Rows,0<=r∧r<=30)∧x.Rows.Pairwise (· < ·)∧x.Rows.length<=1000000
 nodup:(s.AB.map k3++s.AR.flatMap x3).Nodup

theorem wO (h:Jd1 s):Jh s=some true:=by
 obtain⟨⟨h1,h2,h3⟩,h7,h8,h6⟩:=h;refine eF ?_;unfold Jh pH;refine Hr (fun hc=>?_) (fun _=>?_)
 ·simp only [Sy,Sr] at hc;omega
 have fresh:∀ (a b:List Hk) (k:Hk),s.AB.map k3++s.AR.flatMap x3=a++k::b->k ∉ a:=fun a b k e hk=>by
  rw [e] at h6;exact(List.nodup_append.1 h6).2.2 k hk k (List.mem_cons_self ..) rfl
 refine Ja (fun pre m=>H26 (pre.map k3) m) H26.start (fun pre y post m nx e hm h0=>?_) (fun m hm=>?_)
 ·refine Rz (fun j=>j=dk y.Deck) (fun K hK=>Hr (fun h=>hK _ (by rw [h]; rfl)) (fun h=>hK _ (by rw [h]; rfl))) (fun j hj=>?_);subst hj;have hf:k3 y ∉ pre.map k3:=fresh (pre.map k3) (post.map k3++s.AR.flatMap x3) (k3 y) (by rw [e]; simp);have hg:=hm.get (k3 y);rw [if_neg hf] at hg;refine Gv (x:=0) (congrArg some hg) (Hy ⟨by omega,by omega⟩ (Gv (h7 y (by rw [e]; simp)) (Hr (fun h=>by cases h) (fun _=>h0 _ ?_))));rw [List.map_append];exact hm.snoc hf rfl
 ·refine Ja (fun pre m=>H26 (s.AB.map k3++pre.flatMap x3) m) (by simpa using hm) (fun pre y post m nx e hm h0=>?_) (fun m hm=>?_)
  ·obtain⟨c1,c2,c3,c4,c5,c6⟩:=h8 y (by rw [e]; simp);refine Hr (fun hc=>?_) (fun _=>?_)
   ·simp only [Sy,Sr] at hc;have:y.Rows.length≠0:=fun h=>c3 (List.length_eq_zero_iff.1 h);omega
   refine Ja (fun pr m=>H26 (s.AB.map k3++pre.flatMap x3++pr.map (fun r=>(⟨y.Bay,r,2⟩:Hk))) m) (by simpa using hm) (fun pr r pos m nx' e' hm h4=>?_) (fun m hm=>h0 _ ?_)
   ·obtain⟨r1,r2⟩:=c4 r (by rw [e']; simp);have h9:pr.length < y.Rows.length:=by rw [e']; simp
    have h5:0 < pr.length->∃ p,y.Rows[pr.length - 1]? = some p∧p < r:=fun hp=>by
     refine⟨y.Rows[pr.length - 1],by simp,?_⟩;have:=List.pairwise_iff_getElem.1 c5 (pr.length - 1) pr.length (by omega) h9 (by omega);have e2:y.Rows[pr.length]=r:=by simp [e']
     rw [e2] at this; exact this
    have a0:(decide (r < 0)||decide (30 < r))=false:=by simp; omega
    simp only [a0,Bool.not_false,Bool.true_and,Bool.false_or];by_cases hp:0 < pr.length
    ·obtain⟨p,a1,a2⟩:=h5 hp;have hd:decide (0 < (pr.length:Int))=true:=S8 (by omega);rw [hd];simp only [cond_true];refine H6 (Hy ⟨by omega,by omega⟩ (Gx (H6 (Jk (m:=pr.length - 1) (by omega) a1 (Gx ?_)))));refine Hr (fun hc=>?_) (fun _=>?_)
     ·simp at hc; omega
     ·have hf:(⟨y.Bay,r,2⟩:Hk) ∉ s.AB.map k3++pre.flatMap x3++pr.map (fun r=>(⟨y.Bay,r,2⟩:Hk)):=fresh _ (pos.map (fun r=>(⟨y.Bay,r,2⟩:Hk))++post.flatMap x3) _ (by rw [e]; simp [x3,e']);have hg:=hm.get ⟨y.Bay,r,2⟩;rw [if_neg hf] at hg;refine Gv (x:=0) (congrArg some hg) (Hy ⟨by omega,by omega⟩ (h4 _ ?_));rw [List.map_append,<- List.append_assoc];exact hm.snoc hf rfl
    ·have hd:decide (0 < (pr.length:Int))=false:=S9 (by omega);rw [hd];simp only [cond_false,Bool.false_and];refine H6 (Gx (H6 (Gx ?_)))
     ·have hf:(⟨y.Bay,r,2⟩:Hk) ∉ s.AB.map k3++pre.flatMap x3++pr.map (fun r=>(⟨y.Bay,r,2⟩:Hk)):=fresh _ (pos.map (fun r=>(⟨y.Bay,r,2⟩:Hk))++post.flatMap x3) _ (by rw [e]; simp [x3,e']);have hg:=hm.get ⟨y.Bay,r,2⟩;rw [if_neg hf] at hg;refine Gv (x:=0) (congrArg some hg) (Hy ⟨by omega,by omega⟩ (h4 _ ?_));rw [List.map_append,<- List.append_assoc];exact hm.snoc hf rfl
   ·rw [List.flatMap_append,<- List.append_assoc];simpa [x3] using hm
  ·rw [HZ];refine Gx ?_;have:(Gw.l m).any (fun x=>decide (1 < x.2))=false:=List.any_eq_false.2 (fun x hx=>by have:=hm.le x hx; simp; omega);rw [this]; rfl

theorem vB (h:pI s):Jd1 s:=by
 obtain⟨h1,⟨h2,h3,h4⟩,⟨h5,h6,h7⟩⟩:=h;refine⟨⟨h1,by omega,by omega⟩,fun c hc=>H1c (h3 c hc),fun x hx=>?_,?_⟩
 ·obtain⟨⟨b1,b2⟩,hr⟩:=h6 x hx;rcases hr with h | h <;> rw [h] <;> refine⟨b1,by omega,by simp,by simp,by simp,by simp⟩
 ·refine List.nodup_append.2 ⟨?_,?_,?_⟩
  ·have a0:=List.pairwise_map.1 h4;refine List.pairwise_map.2 (a0.imp (fun {a b} h0 e=>h0 ?_));simp only [k3,Hk.mk.injEq] at e;obtain⟨e1,e2,e3⟩:=e;have e4:a.Deck=b.Deck:=by
    revert e3;cases a.Deck <;> cases b.Deck <;> simp [dk]
   simp only [J8d,e1,e2,e4]
  ·refine List.pairwise_flatMap.2 ⟨fun x hx=>?_,?_⟩
   ·refine List.pairwise_map.2 ?_;rcases (h6 x hx).rows with h | h <;> rw [h] <;> simp
   ·have a1:=List.pairwise_map.1 h7;have h9:s.AR.Pairwise (fun a b=>H2f a≠H2f b∧Gee a∧Gee b):=
     List.pairwise_iff_getElem.2 (fun i j hi hj a2=>⟨List.pairwise_iff_getElem.1 a1 i j hi hj a2,h6 _ (List.getElem_mem hi),h6 _ (List.getElem_mem hj)⟩)
    refine h9.imp (fun {a b} h0 p hp q hq e=>?_);obtain⟨a3,ha,hb⟩:=h0;obtain⟨r,hr,rfl⟩:=Su.1 hp;obtain⟨r',h8,rfl⟩:=Su.1 hq;simp only [Hk.mk.injEq] at e;obtain⟨e1,e2,_⟩:=e;subst e2;apply a3;rcases ha.rows with h | h <;> rcases hb.rows with h' | h' <;> rw [h] at hr <;> rw [h'] at h8 <;> simp [H2f,e1,h,h'] at hr h8 ⊢ <;> omega
  ·intro a ha b hb e;obtain⟨c,_,rfl⟩:=Su.1 ha;obtain⟨x,_,hx⟩:=List.mem_flatMap.1 hb;obtain⟨r,_,rfl⟩:=Su.1 hx;simp only [k3,Hk.mk.injEq] at e;have:=e.2.2;revert this;cases c.Deck <;> simp [dk]
theorem ZY (h:pI s):Jh s=some true:=wO (vB h)

variable {α:Type}
theorem cT {β:Type} {x:α} {k:α->Option β}:bnd (some x) k=k x:=rfl
def uS {α:Type} (p:α->Bool) (l:List α):Int:=match l.findIdx? p with
 | some j=>(j:Int)
 | none => -1
theorem jF {p:α->Bool} {f:α->Option Bool} {xs:List α} (hf:∀ x∈xs,f x=some (p x)) :
  each (fun y i (_:Unit) nx=>bnd (f y) fun r=>bif r then some (i:Int) else nx ()) (fun _=>some (-1)) xs 0 ()=some (uS p xs):=by
 have key:∀ (xs:List α),(∀ x∈xs,f x=some (p x))->∀ i:Nat,each (fun y i (_:Unit) nx=>bnd (f y) fun r=>bif r then some (i:Int) else nx ()) (fun _=>some (-1)) xs i ()=some (match xs.findIdx? p with
  | some j=>((i+j:Nat):Int)
  | none => -1):=by
  intro xs
  induction xs with
  | nil=>intro _ i; rfl
  | cons x xs ih=>
   intro hf i;rw [each,hf x (List.mem_cons_self ..),cT,List.findIdx?_cons];grind
 rw [key xs hf 0];unfold uS;grind
theorem qN (p:α->Bool) (l:List α):(uS p l = -1∧(∀ x∈l,p x=false)∧l.find? p=none)∨∃ (m:Nat) (x:α),uS p l=(m:Int)∧l[m]? = some x∧p x=true∧l.find? p=some x:=by
 unfold uS;cases h:l.findIdx? p with
 | none=>
  grind
 | some j=>
  obtain⟨hj,h1,h2⟩:=List.findIdx?_eq_some_iff_getElem.1 h;refine .inr ⟨j,l[j],rfl,by simp [hj],h1,?_⟩;refine List.find?_eq_some_iff_getElem.2 ⟨h1,j,hj,rfl,fun k hk=>?_⟩;grind
theorem kW {p:α->Bool} {l:List α}:decide (0<=uS p l)=l.any p:=by
 rcases qN p l with ⟨h1,h2,_⟩ | ⟨m,x,h1,h2,h3,_⟩
 ·grind
 ·grind

def jU (AA:AH) (id:Int):Option Box:=AA.find? (fun b=>decide (b.ID=id))
theorem xY (AA:AH) (id:Int):fA AA id=some (match jU AA id with
  | some b=>(b,true)
  | none=>(Box.mk 0 ByteArray.empty 0 false 0 0 0 0 false,false)):=by
 unfold fA;have h:Rv AA (fun z0=>jH z0 id)=some (uS (fun b:Box=>decide (b.ID=id)) AA):=jF (fun x _=>rfl);rw [h];simp only [cT];unfold jU;rcases qN (fun b:Box=>decide (b.ID=id)) AA with ⟨h1,_,h3⟩ | ⟨m,x,h1,h2,_,h4⟩
 ·grind
 ·rw [h1,h4,S9 (by omega),cond_false];unfold Jy;rw [S8 (by omega),cond_true,show (m:Int).toNat=m by omega,h2];rfl
def H13 (l:AE) (id:Int):Option G1:=l.find? (fun x=>decide (x.Box=id))

def jT (size:Int):AD:=if size=40 then [0] else if size=20 then [1,2] else []
theorem wM (size:Int):eA size=some (jT size):=by
 unfold eA jT;grind
theorem J8b (l:AD) (v:Int):Za l v=some (l.any (fun y=>decide (v=y))):=by
 unfold Za;have h:bH l v=some (uS (fun y=>decide (v=y)) l):=by
  unfold bH;exact jF (f:=fun y=>some (decide (v=y))) (fun x _=>rfl)
 rw [h];simp only [cT];rw [kW]
theorem H1b (l:List Slot) (v:Slot):Ym l v=some (l.any (fun y=>decide (v=y))):=by
 unfold Ym;have h:Zv l v=some (uS (fun y=>decide (v=y)) l):=by
  unfold Zv;exact jF (f:=fun y=>some (decide (v=y))) (fun x _=>rfl)
 rw [h];simp only [cT];rw [kW]

structure oM (s:Gc) (x:Slot) (size:Int):Prop where
 col:∃ (m:Nat) (c:G7),x.G7=(m:Int)∧s.AB[m]? = some c∧x.AL < c.Tiers
 tier:0<=x.AL
 half:x.Half∈jT size
theorem J01 (s:Gc) (x:Slot) (size:Int):Wp (lW s x size) (fun r=>r=true ↔ oM s x size):=by
 unfold lW;by_cases h0:0<=x.G7∧x.G7 < (s.AB.length:Int)
 ·by_cases h1:0<=x.AL
  ·obtain⟨m,hm⟩:∃ m:Nat,x.G7=(m:Int):=⟨x.G7.toNat,by omega⟩;have h3:m < s.AB.length:=by omega
   have hc:s.AB[m]? = some s.AB[m]:=by simp [h3]
   have e:(((decide (0<=x.G7))&&(decide (x.G7 < (s.AB.length:Int))))&&(decide (0<=x.AL)))=true:=by simp [h0.1,h0.2,h1]
   simp only [e,cond_true,Bool.true_and];refine H6 (Jk hm hc (Gx ?_));by_cases h2:x.AL < (s.AB[m]).Tiers
   ·rw [S8 h2];simp only [cond_true];refine Gv (wM size) (Gv (J8b _ _) (Gx ?_));rw [Bool.true_and,List.any_eq_true];constructor
    ·rintro⟨y,hy,he⟩;have:=S6 he;subst this;exact⟨⟨m,_,hm,hc,h2⟩,h1,hy⟩
    ·exact fun h=>⟨_,h.half,by simp⟩
   ·rw [S9 h2];simp only [cond_false,Bool.false_and];refine H6 (Gx (H6 (Gx (Gx ⟨fun h=>(by cases h),fun h=>?_⟩))));obtain⟨m',c,g1,g2,g3⟩:=h.col;have:m'=m:=by omega
    subst this;rw [hc] at g2; cases g2;exact(h2 g3).elim
  ·simp only [S9 h1,Bool.and_false,cond_false,Bool.false_and];exact H6 (Gx (H6 (Gx (H6 (Gx (Gx ⟨fun h=>(by cases h),fun h=>(h1 h.tier).elim⟩))))))
 ·have e:((decide (0<=x.G7))&&(decide (x.G7 < (s.AB.length:Int))))=false:=by
   by_cases h:0<=x.G7
   ·have:¬ x.G7 < (s.AB.length:Int):=fun g=>h0 ⟨h,g⟩;simp [this]
   ·simp [h]
  simp only [e,Bool.false_and,cond_false];refine H6 (Gx (H6 (Gx (H6 (Gx (Gx ⟨fun h=>(by cases h),fun h=>?_⟩))))));obtain⟨m,c,g1,g2,_⟩:=h.col;have:=(Sa g2).1;exact(h0 (by omega)).elim

def below (l:List Slot) (x:Slot) (half:Int):Prop:=(⟨x.G7,x.AL - 1,half⟩:Slot)∈l
def H9a (x:Slot) (l:List Slot):Prop:=x.AL<=0∨below l x x.Half∨(x.Half=0∧below l x 1∧below l x 2)
theorem GH (half:Int) (l:List Slot) (x:Slot) (ht : -1000000<=x.AL∧x.AL<=1000000):Wp (eB half l x) (fun r=>r=true ↔ below l x half):=by
 unfold eB;refine Hy ⟨by omega,by omega⟩ (Gv (H1b _ _) (Gx ?_));rw [List.any_eq_true];constructor
 ·rintro⟨y,hy,he⟩;have:=S6 he;subst this;exact hy
 ·exact fun h=>⟨_,h,by simp⟩
theorem J69 (x:Slot) (l:List Slot) (ht : -1000000<=x.AL∧x.AL<=1000000):Wp (oD x l) (fun r=>r=true ↔ H9a x l):=by
 unfold oD H9a;refine Hr (fun h=>Gx ⟨fun _=>.inl (S6 h),fun _=>rfl⟩) (fun h=>?_);have h0:=S7 h;refine H6 (wp_mono (GH x.Half l x ht) (fun r7 h7=>?_));cases r7 with
 | true=>
  simp only [Bool.not_true,Bool.false_and,cond_false,Bool.true_or];exact H6 (Gx (H6 (Gx (Gx ⟨fun _=>.inr (.inl (h7.1 rfl)),fun _=>rfl⟩))))
 | false=>
  have h1:¬ below l x x.Half:=fun h=>by have:=h7.2 h; cases this
  simp only [Bool.not_false,Bool.true_and,Bool.false_or];by_cases hh:x.Half=0
  ·rw [S8 hh];simp only [cond_true,Bool.true_and];refine H6 (wp_mono (GH 1 l x ht) (fun r8 h8=>?_));cases r8 with
   | true=>
    simp only [cond_true,Bool.true_and];refine H6 (wp_mono (GH 2 l x ht) (fun r9 h9=>Gx ⟨fun h=>.inr (.inr ⟨hh,h8.1 rfl,h9.1 h⟩),fun h=>?_⟩));rcases h with h | h | ⟨_,_,h⟩
    ·exact(h0 h).elim
    ·exact(h1 h).elim
    ·exact h9.2 h
   | false=>
    simp only [cond_false,Bool.false_and];refine H6 (Gx (Gx ⟨fun h=>(by cases h),fun h=>?_⟩));rcases h with h | h | ⟨_,h,_⟩
    ·exact(h0 h).elim
    ·exact(h1 h).elim
    ·have:=h8.2 h; cases this
  ·rw [S9 hh];simp only [cond_false,Bool.false_and];refine H6 (Gx (H6 (Gx (Gx ⟨fun h=>(by cases h),fun h=>?_⟩))));rcases h with h | h | ⟨h,_⟩
   ·exact(h0 h).elim
   ·exact(h1 h).elim
   ·exact(hh h).elim

def pB (a b:Int):Prop:=a=b∨a=0∨b=0
theorem ZC (a b:Int):Wp (gH a b) (fun r=>r=true ↔ pB a b):=by
 unfold gH pB;refine Gx ?_;grind
def xK (a b:Slot):Prop:=a.G7=b.G7∧a.AL=b.AL∧pB a.Half b.Half
theorem J68 (a b:Slot):Wp (oC a b) (fun r=>r=true ↔ xK a b):=by
 unfold oC xK;by_cases h:a.G7=b.G7∧a.AL=b.AL
 ·simp only [S8 h.1,S8 h.2,Bool.and_self,cond_true,Bool.true_and];exact H6 (wp_mono (ZC _ _) (fun r hr=>Gx ⟨fun e=>⟨h.1,h.2,hr.1 e⟩,fun e=>hr.2 e.2.2⟩))
 ·have e:(decide (a.G7=b.G7)&&decide (a.AL=b.AL))=false:=by
   grind
  simp only [e,cond_false,Bool.false_and];exact H6 (Gx (Gx ⟨fun e=>(by cases e),fun e=>(h ⟨e.1,e.2.1⟩).elim⟩))
def G80 (a b:Slot):Prop:=a.G7=b.G7∧b.AL < a.AL∧pB a.Half b.Half
theorem Gc5 (a b:Slot):Wp (oB a b) (fun r=>r=true ↔ G80 a b):=by
 unfold oB G80;by_cases h:a.G7=b.G7∧b.AL < a.AL
 ·simp only [S8 h.1,S8 h.2,Bool.and_self,cond_true,Bool.true_and];exact H6 (wp_mono (ZC _ _) (fun r hr=>Gx ⟨fun e=>⟨h.1,h.2,hr.1 e⟩,fun e=>hr.2 e.2.2⟩))
 ·have e:(decide (a.G7=b.G7)&&decide (b.AL < a.AL))=false:=by
   grind
  simp only [e,cond_false,Bool.false_and];exact H6 (Gx (Gx ⟨fun e=>(by cases e),fun e=>(h ⟨e.1,e.2.1⟩).elim⟩))

def H5f (b:Box):Int:=if b.High then 2896 else 2591
def G09 (AA:AH) (AQ half:Int) (n:Int) (x:G1):Int:=
 if x.Slot.G7=AQ∧(x.Slot.Half=half∨x.Slot.Half=0) then (match jU AA x.Box with | some b=>n+H5f b | none=>n) else n
def yJ (AA:AH) (l:AE) (AQ half:Int):Int:=l.foldl (G09 AA AQ half) 0
theorem Q0c {AA:AH} {AQ half n:Int} {x:G1}:n<=G09 AA AQ half n x∧G09 AA AQ half n x<=n+2896:=by
 unfold G09 H5f;grind
theorem YX (AA:AH) (l:AE) (AQ half:Int) (hl:l.length<=1000000):gG AA l AQ half=some (yJ AA l AQ half):=by
 refine eF ?_;unfold gG yJ;refine Ja (fun pre n=>n=pre.foldl (G09 AA AQ half) 0∧0<=n∧n<=2896*pre.length) ⟨rfl,Int.le_refl _,by simp⟩ (fun pre y post n nx e hn h5=>?_) (fun n hn=>Gx hn.1);obtain⟨rfl,h1,h2⟩:=hn;have hp:pre.length+1<=l.length:=by rw [e]; simp
 have ha:=Q0c (AA:=AA) (AQ:=AQ) (half:=half) (n:=pre.foldl (G09 AA AQ half) 0) (x:=y);have h4:((pre++[y]).length:Int)=pre.length+1:=by simp
 generalize hg:pre.foldl (G09 AA AQ half) 0=n at *;refine Rz (fun j=>j=G09 AA AQ half n y) (fun K hK=>?_) (fun j hj=>h5 _ ⟨by rw [hj,List.foldl_append,hg]; rfl,by omega,by rw [h4]; omega⟩);refine Hr (fun hc=>?_) (fun hc=>hK _ ?_)
 ·have h0:y.Slot.G7=AQ∧(y.Slot.Half=half∨y.Slot.Half=0):=by simpa using hc
  refine Gv (xY AA y.Box) ?_;cases hf:jU AA y.Box with
  | none=>exact Hr (fun h=>by cases h) (fun _=>hK _ (by unfold G09; rw [if_pos h0,hf]))
  | some b=>
   refine Hr (fun _=>?_) (fun h=>by cases h);have ht:nY b=some (H5f b):=by unfold nY H5f; cases b.High <;> rfl
   have h3:G09 AA AQ half n y=n+H5f b:=by unfold G09; rw [if_pos h0,hf]
   refine Gv ht (Hy ?_ (hK _ h3.symm));rw [<- h3];omega
 ·have h0:¬ (y.Slot.G7=AQ∧(y.Slot.Half=half∨y.Slot.Half=0)):=by simpa using hc
  unfold G09; rw [if_neg h0]
def H9b (AA:AH) (l:AE) (m:Nat) (c:G7):Prop:=c.Height<=0∨(yJ AA l m 1<=c.Height∧yJ AA l m 2<=c.Height)
theorem J62 {AA:AH} {l:AE} {m:Nat} (hc:s.AB[m]? = some c) (hl:l.length<=1000000):Wp (oA s AA l (m:Int)) (fun r=>r=true ↔ H9b AA l m c):=by
 unfold oA H9b;refine Jk rfl hc ?_;by_cases h:c.Height<=0
 ·simp only [S8 h,Bool.not_true,cond_false,Bool.false_and,Bool.true_or];exact H6 (Gx (H6 (Gx (Gx ⟨fun _=>.inl h,fun _=>rfl⟩))))
 ·simp only [S9 h,Bool.not_false,cond_true,Bool.true_and,Bool.false_or];refine Gv (YX AA l m 1 hl) ?_;by_cases h1:yJ AA l m 1<=c.Height
  ·rw [S8 h1];simp only [cond_true,Bool.true_and];exact Gv (YX AA l m 2 hl) (Gx ⟨fun e=>.inr ⟨h1,S6 e⟩,fun e=>S8 (e.elim (fun e=>(h e).elim) (·.2))⟩)
  ·rw [S9 h1];simp only [cond_false,Bool.false_and];exact H6 (Gx (Gx ⟨fun e=>(by cases e),fun e=>e.elim (fun e=>(h e).elim) (fun e=>(h1 e.1).elim)⟩))

theorem Hf4 (l:AE) (hl:l.length<=1000000):lT l=some (l.map (·.Slot)):=by
 refine eF ?_;unfold lT;refine Ja (fun pre s=>s=pre.map (·.Slot)) rfl (fun pre y post s nx e hs h0=>?_) (fun s hs=>Gx hs);subst hs;have hp:pre.length+1<=l.length:=by rw [e]; simp
 exact Ji (Qp (by simp only [Ss,Sp]; omega) (by omega)) (h0 _ (by simp))
end Go.Proofs.YtibhpogonkdiaaaGreat
