/-
 BoundTells: BoundTells:
-/
import Derived.Test.YthkihfoleenlmaaGreatFamT
import Derived.Test.YthkihfoleenlmaaGreatShipT
set_option maxRecDepth 100000
set_option linter.unusedVariables false
namespace Go.Proofs.YthkihfoleenlmaaGreat
open Go.RowKit

theorem sA (bx:List Box) (g:G5) (z:Int) (hl:bx.length≤1000000):Q6 bx g z=some (Zm z g bx):=by
  refine gA ?_
  unfold Q6
  refine Rv (fun pre (st:Int)=>st=Zm z g pre) rfl (fun pre y post st nx e hI h0=>?_) (fun st hI=>H4 hI)
  subst hI
  have hb:=fV z g pre
  have hp:pre.length≤1000000:=by
    have:=congrArg List.length e
    simp only [P5,P1] at this
    omega
  refine lW (fun j:Int=>j=Zm z g (pre++[y])) (fun K hK=>J8 (fun h=>Ji ⟨by omega,by omega⟩ (hK _ ?_)) (fun h=>hK _ ?_)) (fun j hj=>h0 _ hj)
  · have h:hit g z y=true:=h
    rw [nB,if_pos h]
  · have h:hit g z y=false:=h
    rw [nB,if_neg (by rw [h]; exact fun e=>Bool.noConfusion e)]; omega

def glt (a b:G5):Prop:=a.Load < b.Load∨(a.Load=b.Load∧a.Discharge < b.Discharge)
theorem zY {a b c:G5} (h1:glt a b) (h2:glt b c):glt a c:=by unfold glt at *; omega
theorem QP {a:G5} (h:glt a a):False:=by unfold glt at h; omega
theorem J28 (a b:G5):glt a b∨a=b∨glt b a:=by
  unfold glt
  by_cases h:a.Load=b.Load∧a.Discharge=b.Discharge
  · refine .inr (.inl ?_)
    obtain⟨al,ad⟩:=a
    obtain⟨bl,bd⟩:=b
    simp only at h
    rw [h.1,h.2]
  · omega
theorem Gb5 (a b:G5):∃ r,R6 a b=some r∧(r=true ↔ glt a b):=⟨_,rfl,by
  rw [Pf,P7,P8,P8,P8]; rfl⟩
def nz (bx:List Box) (g:G5):Prop:=Zm 40 g bx+Zm 20 g bx≠0
def GD (bx:List Box) (g:G5):G8:=⟨g,Zm 40 g bx,Zm 20 g bx⟩
def gB (b:Box):G5:=⟨b.Load,b.Discharge⟩
theorem Hbb {bx:List Box} {g:G5} (h:nz bx g):∃ b∈bx,gB b=g:=by
  have hp:∀ z,0 < bx.countP (hit g z)→∃ b∈bx,gB b=g:=fun z hz=>by
    obtain⟨b,hb,hh⟩:=List.countP_pos_iff.1 hz
    simp only [hit,P7,P8] at hh
    refine⟨b,hb,?_⟩
    unfold gB
    rw [hh.1.1,hh.1.2]
  unfold nz Zm at h
  by_cases h1:0 < bx.countP (hit g 40)
  · exact hp 40 h1
  · exact hp 20 (by omega)
structure Hd9 (bx:List Box) (out:List G8):Prop where
  sorted:out.Pairwise (fun a b=>glt a.G5 b.G5)
  each:∀ c∈out,c=GD bx c.G5∧nz bx c.G5
  rest:∀ b∈bx,nz bx (gB b)→gB b∈out.map (·.G5)∨∀ c∈out,glt c.G5 (gB b)
theorem Hd9.len {bx:List Box} {out:List G8} (h:Hd9 bx out):out.length≤bx.length:=by
  have hn:(out.map (·.G5)).Nodup:=by
    rw [List.nodup_iff_pairwise_ne,List.pairwise_map]
    exact h.sorted.imp (fun h e=>by rw [e] at h; exact QP h)
  have:=hn.length_le_of_subset (l₂:=bx.map gB) (fun a ha=>by
    obtain⟨c,hc,e⟩:=Pb.1 ha
    obtain⟨b,hb,e2⟩:=Hbb (h.each c hc).2
    exact Pb.2 ⟨b,hb,e2.trans e⟩)
  rwa [P9,P9] at this
def ZQ (bx:List Box) (out:List G8) (g:G5):Prop:=nz bx g∧∀ c∈out,glt c.G5 g
theorem H86 {β:Type} {Q:β→Prop} {bx:List Box} {out:List G8} (h:Hd9 bx out) (hl:bx.length≤1000000) {g best:G5} {some_:Bool} {K1:Option β} {K2:Int→Int→Option β}
    (h1:¬ (ZQ bx out g∧(some_=true→glt g best))→Wp K1 Q) (h2:ZQ bx out g→(some_=true→glt g best)→Wp (K2 (Zm 40 g bx) (Zm 20 g bx)) Q) :
    Wp (bnd (Q6 bx g 40) fun r108=>
        bnd (Q6 bx g 20) fun r109=>
        chk (r108+r109) fun v112=>
        bnd (bif ((!(decide (v112=0)))&&(decide (0 < (out.length:Int)))) then chk ((out.length:Int) - 1) some else some 0) fun v113=>
        bnd (bif ((!(decide (v112=0)))&&(decide (0 < (out.length:Int)))) then Jx out v113 some else some default) fun y114=>
        bnd (bif ((!(decide (v112=0)))&&(decide (0 < (out.length:Int)))) then R6 y114.G5 g else some default) fun r115=>
        bnd (bif ((!((decide (v112=0))||((decide (0 < (out.length:Int)))&&(!r115))))&&some_) then R6 g best else some default) fun r116=>
        bif (((decide (v112=0))||((decide (0 < (out.length:Int)))&&(!r115)))||(some_&&(!r116))) then K1 else K2 r108 r109) Q:=by
  have h9:=h.len
  have g1:=fV 40 g bx
  have g2:=fV 20 g bx
  refine Hh (sA bx g 40 hl) (Hh (sA bx g 20 hl) (Ji ⟨by omega,by omega⟩ ?_))
  by_cases hz:Zm 40 g bx+Zm 20 g bx=0
  · rw [Nr hz]
    simp only [Bool.not_true,Bool.false_and,cond_false,Bool.true_or,cond_true,bnd]
    exact h1 (fun hh=>hh.1.1 hz)
  · rw [Ns hz]
    simp only [Bool.not_false,Bool.true_and,Bool.false_or]
    have tail:∀ r115:Bool,((decide (0 < (out.length:Int))&&!r115)=false ↔ ∀ c∈out,glt c.G5 g) →
        Wp (bnd (bif (!((decide (0 < (out.length:Int)))&&(!r115)))&&some_ then R6 g best else some default) fun r116=>
          bif (((decide (0 < (out.length:Int)))&&(!r115))||(some_&&(!r116))) then K1 else K2 (Zm 40 g bx) (Zm 20 g bx)) Q:=fun r115 hr=>by
      cases hq:(decide (0 < (out.length:Int))&&!r115) with
      | true=>
        simp only [Bool.not_true,Bool.false_and,cond_false,Bool.true_or,cond_true,bnd]
        exact h1 (fun hh=>by have:=hr.2 hh.1.2; rw [hq] at this; cases this)
      | false=>
        have h4:=hr.1 hq
        simp only [Bool.not_false,Bool.true_and,Bool.false_or]
        cases some_ with
        | false=>
          simp only [cond_false,Bool.false_and,bnd]
          exact h2 ⟨hz,h4⟩ (fun e=>Bool.noConfusion e)
        | true=>
          obtain⟨r,e,h6⟩:=Gb5 g best
          rw [cond_true]
          refine Hh e ?_
          cases r with
          | true=>exact h2 ⟨hz,h4⟩ (fun _=>h6.1 rfl)
          | false=>exact h1 (fun hh=>by have:=h6.2 (hh.2 rfl); cases this)
    cases h3:out with
    | nil=>
      have:=tail default (by rw [h3]; simp)
      rw [h3] at this
      simp only [List.length_nil,Int.natCast_zero,Int.lt_irrefl,decide_false,cond_false,sX] at this ⊢
      exact this
    | cons c0 cs=>
      have h0:decide (0 < ((c0::cs).length:Int))=true:=Nr (by rw [P1]; omega)
      have a0:0 < out.length:=by rw [h3]; simp
      have h5:∃ c,out[out.length - 1]? = some c:=⟨_,Nu (by omega)⟩
      obtain⟨c,hc⟩:=h5
      rw [← h3] at h0 ⊢
      rw [h0]
      simp only [cond_true,Bool.true_and] at tail ⊢
      obtain⟨r,e,hr⟩:=Gb5 c.G5 g
      refine Jp (Ji ⟨by omega,by omega⟩ (H4 (Jp (Qs (m:=out.length - 1) (by omega) hc (H4 (Hh e ?_))))))
      have ht:=tail r (by
        rw [h0,Bool.true_and,Bool.not_eq_false',hr]
        refine⟨fun hg a ha=>?_,fun hh=>hh c (Nw hc)⟩
        obtain⟨i,hi,rfl⟩:=List.mem_iff_getElem.1 ha
        have h7:=(Nt hc).2
        by_cases h8:i=out.length - 1
        · subst h8; rw [h7]; exact hg
        · have:=List.pairwise_iff_getElem.1 h.sorted i (out.length - 1) hi (by omega) (by omega)
          rw [h7] at this
          exact zY this hg)
      rw [h0] at ht
      simpa using ht
structure GAll (bx:List Box) (out:List G8):Prop where
  sorted:out.Pairwise (fun a b=>glt a.G5 b.G5)
  each:∀ c∈out,c=GD bx c.G5∧nz bx c.G5
  all:∀ g,nz bx g→g∈out.map (·.G5)
theorem H25 {F:Nat} {bx:List Box} (hl:bx.length≤1000000) (hF:bx.length < F):Wp (Y7 F bx) (GAll bx):=by
  unfold Y7
  refine wp_loop (fun out=>Hd9 bx out) (fun out=>bx.length - out.length) ⟨List.Pairwise.nil,fun c hc=>(Nx hc).elim,fun b hb hn=>.inr (fun c hc=>(Nx hc).elim)⟩ (by simp only [List.length_nil]; omega) (fun out nx hI h6=>?_)
  have a0:=hI.len
  refine Rv (fun pre (st:Bool×Int×Int×Int×Int)=>(st.1=false→∀ b∈pre,¬ ZQ bx out (gB b))∧(st.1=true→ZQ bx out ⟨st.2.1,st.2.2.1⟩∧st.2.2.2.1=Zm 40 ⟨st.2.1,st.2.2.1⟩ bx∧st.2.2.2.2=Zm 20 ⟨st.2.1,st.2.2.1⟩ bx∧∀ b∈pre,ZQ bx out (gB b)→¬ glt (gB b) ⟨st.2.1,st.2.2.1⟩))
    ⟨fun _ b hb=>(Nx hb).elim,fun h=>Bool.noConfusion h⟩ (fun pre y post st nx2 e hJ h4=>?_) (fun st hJ=>?_)
  · refine lW (fun st:Bool×Int×Int×Int×Int=>(st.1=false→∀ b∈pre++[y],¬ ZQ bx out (gB b))∧(st.1=true→ZQ bx out ⟨st.2.1,st.2.2.1⟩∧st.2.2.2.1=Zm 40 ⟨st.2.1,st.2.2.1⟩ bx∧st.2.2.2.2=Zm 20 ⟨st.2.1,st.2.2.1⟩ bx∧∀ b∈pre++[y],ZQ bx out (gB b)→¬ glt (gB b) ⟨st.2.1,st.2.2.1⟩)) (fun K hK=>?_) (fun j hj=>h4 _ hj)
    refine H86 (K1:=K (st.1,st.2.1,st.2.2.1,st.2.2.2.1,st.2.2.2.2)) (K2:=fun a b=>K (true,y.Load,y.Discharge,a,b)) hI hl (fun hn=>hK _ ⟨fun hs=>Rx (P:=fun b:Box=>¬ ZQ bx out (gB b)) (hJ.1 hs) (fun hc=>?_),fun hs=>⟨(hJ.2 hs).1,(hJ.2 hs).2.1,(hJ.2 hs).2.2.1,Rx (P:=fun b:Box=>ZQ bx out (gB b)→¬ glt (gB b) ⟨st.2.1,st.2.2.1⟩) (hJ.2 hs).2.2.2 (fun hc hg=>hn ⟨hc,fun _=>hg⟩)⟩⟩)
      (fun hc hg=>hK _ ⟨fun h=>Bool.noConfusion h,fun _=>⟨hc,rfl,rfl,Rx (P:=fun b:Box=>ZQ bx out (gB b)→¬ glt (gB b) (gB y)) (fun b hb h0 h7=>?_) (fun _ h=>QP h)⟩⟩)
    · refine hn ⟨hc,fun h=>?_⟩
      have hs:st.1=false:=hs
      rw [hs] at h; cases h
    · cases hs:st.1 with
      | false=>exact hJ.1 hs b hb h0
      | true=>exact(hJ.2 hs).2.2.2 b hb h0 (zY h7 (hg hs))
  · refine J8 (fun h=>H4 ⟨hI.sorted,hI.each,fun g hg=>?_⟩) (fun h=>?_)
    · have hs:st.1=false:=by simpa using h
      obtain⟨b,hb,rfl⟩:=Hbb hg
      exact(hI.rest b hb hg).elim (fun h=>h) (fun h=>(hJ.1 hs b hb ⟨hg,h⟩).elim)
    · have hs:st.1=true:=by simpa using h
      obtain⟨hc,e1,e2,h5⟩:=hJ.2 hs
      have h1:Hd9 bx (out++[G8.mk (G5.mk st.2.1 st.2.2.1) st.2.2.2.1 st.2.2.2.2]):=by
        refine⟨sC hI.sorted (fun c h8=>hc.2 c h8),Rx hI.each ⟨by rw [e1,e2]; rfl,hc.1⟩,fun b hb hn=>?_⟩
        rcases hI.rest b hb hn with h2 | h2
        · exact .inl (by rw [List.map_append]; exact Pa.2 (.inl h2))
        · rcases J28 (gB b) ⟨st.2.1,st.2.2.1⟩ with h3 | h3 | h3
          · exact(h5 b hb ⟨hn,h2⟩ h3).elim
          · exact .inl (by rw [List.map_append,h3]; simp)
          · exact .inr (Rx (P:=fun c:G8=>glt c.G5 (gB b)) h2 h3)
      have h9:=h1.len
      rw [P5,P6] at h9
      refine Z0 (G29 (by rw [P6]; omega) (by omega)) (h6 _ h1 ?_)
      simp only [P5,P6]
      omega
def toB (c:G8):G1:=⟨c.G5,c.Whole,c.Half⟩
def toR (c:G1):G8:=⟨c.G5,c.Whole,c.Half⟩
theorem Gbf {κ ν:Type} [DecidableEq κ] {a:κ} {v:ν}:∀ {l:List (κ×ν)},dG l a=some v→(a,v)∈l
  | [],h=>by cases h
  | p::l,h=>by
    rw [fT] at h
    by_cases e:p.1=a
    · rw [if_pos e] at h
      cases h
      rw [← e]
      exact List.mem_cons_self ..
    · rw [if_neg e] at h
      exact List.mem_cons_of_mem _ (Gbf h)
structure Hda (F:Nat) (bx:List Box) (g0:List G1):Prop where
  prog:R8 bx=some g0
  ref:Y7 F bx=some (g0.map toR)
  sorted:g0.Pairwise (fun a b=>glt a.G5 b.G5)
  each:∀ c∈g0,c=toB (GD bx c.G5)∧nz bx c.G5
  all:∀ g,nz bx g→toB (GD bx g)∈g0
  len:g0.length≤bx.length
theorem Gca {F:Nat} {bx:List Box} (hl:bx.length≤100000) (hF:bx.length < F):∃ g0,Hda F bx g0:=by
  obtain⟨l,e,h1,h2,h3,_⟩:=G58 bx (by omega)
  obtain⟨m,hm,e'⟩:=JN bx (by omega)
  rw [e] at e'
  have e':=Nv e'
  have hs:l.Pairwise (fun a b=>glt a.G5 b.G5):=List.pairwise_iff_getElem.2 (fun i j hi hj h8=>by
    have:=h3 i j h8 hj
    rw [jK,P8] at this
    exact this)
  have h0:∀ c∈l,c=toB (GD bx c.G5)∧nz bx c.G5:=fun c hc=>by
    obtain⟨a1,a2,a3⟩:=h2 c hc
    refine⟨?_,by unfold nz; rw [← a1,← a2]; exact a3⟩
    obtain⟨g,w,h⟩:=c
    simp only at a1 a2
    unfold toB GD
    rw [a1,a2]
  have h4:∀ g,nz bx g→toB (GD bx g)∈l:=fun g hg=>by
    have:=hm.get g
    rw [if_neg hg] at this
    rw [e']
    exact(nW _).mem_iff.2 (Pb.2 ⟨_,Gbf this,rfl⟩)
  obtain⟨r,er,hr⟩:=H25 (F:=F) (bx:=bx) (by omega) hF
  refine⟨l,e,?_,hs,h0,h4,h1⟩
  rw [er]
  congr 1
  have h5:(r.map toB).Pairwise (fun a b=>glt a.G5 b.G5):=by rw [List.pairwise_map]; exact hr.sorted
  have h6:∀ {q:List G1},q.Pairwise (fun a b=>glt a.G5 b.G5)→q.Nodup:=fun {q} h=>by
    rw [List.nodup_iff_pairwise_ne]
    exact h.imp (fun h e=>by rw [e] at h; exact QP h)
  have h7:∀ c,c∈r.map toB ↔ c∈l:=fun c=>by
    constructor
    · intro h
      obtain⟨x,hx,rfl⟩:=Pb.1 h
      obtain⟨a1,a2⟩:=hr.each x hx
      have:=h4 x.G5 a2
      rwa [← a1] at this
    · intro h
      obtain⟨a1,a2⟩:=h0 c h
      obtain⟨x,hx,ex⟩:=Pb.1 (hr.all c.G5 a2)
      refine Pb.2 ⟨x,hx,?_⟩
      rw [(hr.each x hx).1,a1]
      rw [show x.G5=c.G5 from ex]
  have h9:r.map toB=l:=List.Perm.eq_of_pairwise (le:=fun a b:G1=>glt a.G5 b.G5) (fun a b _ _ h1 h2=>(QP (zY h1 h2)).elim) h5 hs ((List.perm_ext_iff_of_nodup (h6 h5) (h6 hs)).2 h7)
  rw [← h9,List.map_map]
  exact(List.map_id'' (fun _=>rfl) r).symm

structure ZM (T n k:Int):Prop where
  nn:0≤k
  up:n≤k*T
  low:k=0∨(k - 1)*T < n
theorem ZM.le {T n k k':Int} (h:ZM T n k) (hT:0≤T) (h':n≤k'*T) (h0:0≤k'):k≤k':=by
  rcases h.low with e | e
  · omega
  · refine Classical.byContradiction fun hc=>?_
    have:k'*T≤(k - 1)*T:=Int.mul_le_mul_of_nonneg_right (by omega) hT
    omega
theorem ZM.eq {T n k k':Int} (h:ZM T n k) (h':ZM T n k') (hT:0≤T):k=k':=by
  have h1:=h.le hT h'.up h'.nn
  have h2:=h'.le hT h.up h.nn
  omega
def jN (T w h r:Int):Prop:=∃ a b,ZM T w a∧ZM T (2*w+h) b∧r=max (2*a) b
theorem jN.eq {T w h r r':Int} (hT:0≤T):jN T w h r→jN T w h r'→r=r':=fun⟨a,b,h1,h2,e⟩ ⟨a',b',h0,h3,e'⟩=>by
  have:=h1.eq h0 hT
  have:=h2.eq h3 hT
  omega
theorem ZM.small {T n k:Int} (h:ZM T n k) (hT:1≤T) (hn:0≤n):k≤n:=by
  rcases h.low with e | e
  · omega
  · by_cases hk:k - 1 < 0
    · omega
    · have:(k - 1)*1≤(k - 1)*T:=Int.mul_le_mul_of_nonneg_left hT (by omega)
      omega
theorem Gb4 {F:Nat} {T w h:Int} (hT:1≤T∧T≤10) (hw:0≤w∧w≤2000) (hh:0≤h∧h≤2000) (hF:(2*w+h).toNat < F):Wp (Zw F T w h) (jN T w h):=by
  unfold Zw
  have h3:∀ k:Int,0≤k→k≤6000→0≤k*T∧k*T≤60000:=fun k h1 h2=>by
    have:=G52 (T:=k) (h:=T) (a:=6000) (b:=10) ⟨h1,h2⟩ ⟨by omega,hT.2⟩
    omega
  have h4:∀ k n:Int,0≤k→k*T < n→k < n:=fun k n h1 h2=>by
    have:k*1≤k*T:=Int.mul_le_mul_of_nonneg_left hT.1 h1
    omega
  refine wp_loop (fun s:Int=>∃ k:Int,s=2*k∧0≤k∧k≤w∧(k=0∨(k - 1)*T < w)) (fun s=>(2*w - s).toNat) ⟨0,rfl,by omega,by omega,.inl rfl⟩ (by show (2*w - 0).toNat < F; omega) (fun s nx hI h8=>?_)
  obtain⟨k,rfl,k1,k2,k3⟩:=hI
  have h9:=h3 k k1 (by omega)
  refine Jp (Ha8 (by omega) ⟨by omega,by omega⟩ ?_)
  rw [Int.mul_tdiv_cancel_left k (by omega:(2:Int)≠0)]
  refine Ji ⟨by omega,by omega⟩ (J8 (fun h0=>?_) (fun h6=>?_))
  · have h0:=Np h0
    have:=h4 k w k1 h0
    exact Ji ⟨by omega,by omega⟩ (h8 _ ⟨k+1,by omega,by omega,by omega,.inr (by rw [show k+1 - 1=k by omega]; exact h0)⟩ (by show (2*w - (2*k+2)).toNat < (2*w - 2*k).toNat; omega))
  · have h6:=Nq h6
    have hA:ZM T w k:=⟨k1,by omega,k3⟩
    refine wp_loop (fun b:Int=>0≤b∧b≤2*w+h∧(b=0∨(b - 1)*T < 2*w+h)) (fun b=>(2*w+h - b).toNat) ⟨by omega,by omega,.inl rfl⟩ (by show (2*w+h - 0).toNat < F; omega) (fun b nx2 hJ h7=>?_)
    obtain⟨b1,b2,b3⟩:=hJ
    have a0:=h3 b b1 (by omega)
    refine Ji ⟨by omega,by omega⟩ (Ji ⟨by omega,by omega⟩ (Ji ⟨by omega,by omega⟩ (J8 (fun h0=>?_) (fun h5=>?_))))
    · have h0:=Np h0
      have:=h4 b _ b1 h0
      exact Ji ⟨by omega,by omega⟩ (h7 _ ⟨by omega,by omega,.inr (by rw [show b+1 - 1=b by omega]; exact h0)⟩ (by show (2*w+h - (b+1)).toNat < (2*w+h - b).toNat; omega))
    · have h5:=Nq h5
      have hB:ZM T (2*w+h) b:=⟨b1,by omega,b3⟩
      refine J8 (fun hc=>H4 ⟨k,b,hA,hB,?_⟩) (fun hc=>H4 ⟨k,b,hA,hB,?_⟩)
      · have:=Np hc; omega
      · have:=Nq hc; omega
theorem jN.le {T w h r k:Int} (hT:0≤T) (hr:jN T w h r) (hk:0≤k) (h1:w≤k / 2*T) (h2:2*w+h≤k*T):r≤k:=by
  obtain⟨a,b,ha,hb,rfl⟩:=hr
  have:=ha.le hT h1 (by omega)
  have:=hb.le hT h2 hk
  omega
theorem jN.ge {T w h r:Int} (hT:0≤T) (hr:jN T w h r):0≤r∧w≤r / 2*T∧2*w+h≤r*T:=by
  obtain⟨a,b,ha,hb,rfl⟩:=hr
  have h1:=ha.nn
  have h2:=hb.nn
  refine⟨by omega,Int.le_trans ha.up (Int.mul_le_mul_of_nonneg_right (by omega) hT),Int.le_trans hb.up (Int.mul_le_mul_of_nonneg_right (by omega) hT)⟩
section
variable {F0:Nat} {T:Int}
theorem JR (h0:60≤F0) (hT:0≤T∧T≤20):∀ (ps:List (G1×Nat)),(∀ p∈ps,Zi p.1)→jD ps≤40→0≤aP F0 T ps∧aP F0 T ps≤24*(ps.length:Int)
  | [],_,_=>⟨Int.le_refl _,by simp [aP]⟩
  | p::ps,hc,hw=>by
    have e1:aP F0 T (p::ps)=iD F0 T p.1 p.2+aP F0 T ps:=by simp [aP]
    have e2:jD (p::ps)=p.2+jD ps:=by simp [jD]
    have hp:=hc p (List.mem_cons_self ..)
    have i:=(kS (h:=p.2) hp hT (by omega) h0).2
    have h1:=i.nonneg hp
    have h2:=i.top
    have h3:=hp.whole
    have h4:=hp.half
    have h5:=JR h0 hT ps (fun q hq=>hc q (List.mem_cons_of_mem _ hq)) (by omega)
    rw [e1,P1]
    omega
theorem fY.bounds {l:List G1} {a:Nat} {v:Int} (h:fY F0 T l a v) (h0:60≤F0) (hT:0≤T∧T≤20) (hl:∀ c∈l,Zi c) (ha:a≤40):0≤v∧v≤24*(l.length:Int):=by
  obtain⟨ps,e1,e2,e3⟩:=h.att
  have:=JR h0 hT ps (fun p hp=>hl _ (e1 ▸ Pb.2 ⟨p,hp,rfl⟩)) (by omega)
  rw [e3,show ps.length=l.length by rw [← e1,P9]] at this
  exact this
theorem fY.eq {l:List G1} {a:Nat} {v v':Int} (h:fY F0 T l a v) (h':fY F0 T l a v'):v=v':=by
  have:=h.anti h' (Ny)
  have:=h'.anti h (Ny)
  omega
def Opt (F0:Nat) (T:Int) (c:G1) (rest:List G1) (H:Nat) (w h x:Int):Prop:=
  0≤w∧w≤c.Whole∧0≤h∧h≤c.Half∧∃ n:Nat,jN T (c.Whole - w) (c.Half - h) (n:Int)∧n≤H∧∃ m,fY F0 T rest (H - n) m∧x=w+h+m
theorem G5e {c:G1} {rest:List G1} {H:Nat} {v:Int} (h5:60≤F0) (hT:0≤T∧T≤20) (hc:Zi c) (hr:∀ c∈rest,Zi c) (hH:H≤40)
    (h7:∀ a≤H,∃ m,fY F0 T rest a m) (h4:∀ w h,0≤w→w≤12→0≤h→h≤12→∃ r,jN T w h r)
    (h6:∃ w h,Opt F0 T c rest H w h v) (h8:∀ w h x,Opt F0 T c rest H w h x→v≤x):fY F0 T (c::rest) H v:=by
  obtain⟨c1,c2⟩:=hc.whole
  obtain⟨c3,c4⟩:=hc.half
  have h0:∀ ps:List (G1×Nat),ps.map (·.1)=c::rest→jD ps≤H→v≤aP F0 T ps:=fun ps e1 e2=>by
    cases ps with
    | nil=>cases e1
    | cons p ps=>
      simp only [List.map_cons,List.cons.injEq] at e1
      obtain⟨rfl,e1⟩:=e1
      have ew:jD (p::ps)=p.2+jD ps:=by simp [jD]
      have ec:aP F0 T (p::ps)=iD F0 T p.1 p.2+aP F0 T ps:=by simp [aP]
      have i:=(kS (h:=p.2) hc hT (by omega) h5).2
      -- bx that are left out
      have go:∀ w h,0≤w→w≤p.1.Whole→0≤h→h≤p.1.Half→p.1.Whole - w≤(p.2:Int) / 2*T→2*(p.1.Whole - w)+(p.1.Half - h)≤(p.2:Int)*T→iD F0 T p.1 p.2=w+h→v≤aP F0 T (p::ps):=fun w h w1 w2 h1 h2 n1 n2 e=>by
        obtain⟨r,h3⟩:=h4 (p.1.Whole - w) (p.1.Half - h) (by omega) (by omega) (by omega) (by omega)
        have h9:=h3.le hT.1 (by omega) n1 n2
        have a0:=(h3.ge hT.1).1
        obtain⟨m,hm⟩:=h7 (H - r.toNat) (by omega)
        have:=h8 w h (w+h+m) ⟨w1,w2,h1,h2,r.toNat,by rw [show ((r.toNat:Nat):Int)=r by omega]; exact h3,by omega,m,hm,rfl⟩
        have:=hm.least ps e1 (by omega)
        omega
      rcases i.att with e | ⟨w,w1,w2,w3,e⟩
      · refine go p.1.Whole p.1.Half (by omega) (by omega) (by omega) (by omega) ?_ ?_ e
        · rw [Int.sub_self]; exact Int.mul_nonneg (by omega) hT.1
        · rw [Int.sub_self,Int.sub_self]; have:=Int.mul_nonneg (a:=(p.2:Int)) (b:=T) (by omega) hT.1; omega
      · have a1:2*w≤T*(p.2:Int):=by
          have:T*(2*((p.2:Int) / 2))≤T*(p.2:Int):=Int.mul_le_mul_of_nonneg_left (by omega) hT.1
          have e2:T*(2*((p.2:Int) / 2))=2*(T*((p.2:Int) / 2)):=by rw [← Int.mul_assoc,Int.mul_comm T 2,Int.mul_assoc]
          omega
        refine go (p.1.Whole - w) (p.1.Half - min p.1.Half (T*(p.2:Int) - 2*w)) (by omega) (by omega) (by omega) (by omega) ?_ ?_ (by omega)
        · rw [Int.mul_comm]; omega
        · rw [Int.mul_comm (p.2:Int)]; omega
  refine⟨?_,h0⟩
  obtain⟨w,h,w1,w2,h1,h2,n,hn,a2,m,hm,e⟩:=h6
  obtain⟨ps,e1,e2,e3⟩:=hm.att
  have ew:jD ((c,n)::ps)=n+jD ps:=by simp [jD]
  have ec:aP F0 T ((c,n)::ps)=iD F0 T c n+aP F0 T ps:=by simp [aP]
  refine⟨(c,n)::ps,by rw [List.map_cons,e1],by omega,?_⟩
  have a3:=h0 ((c,n)::ps) (by rw [List.map_cons,e1]) (by omega)
  have i:=(kS (h:=n) hc hT (by omega) h5).2
  obtain⟨_,n1,n2⟩:=hn.ge hT.1
  have:=i.least (c.Whole - w) (by omega) (by omega) (by rw [Int.mul_comm]; exact n1)
  rw [Int.mul_comm (n:Int) T] at n2
  omega
end
end Go.Proofs.YthkihfoleenlmaaGreat
