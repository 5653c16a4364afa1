/-
 No plan has fewer AU than families bound by. What Find bounds by: SearchNone: SearchLeast:
-/
import Derived.Test.YtibhpogonkdiaaaGreatHoldB
import Derived.Test.YtibhpogonkdiaaaGreatSeaT
set_option maxRecDepth 100000
namespace Go.Proofs.YtibhpogonkdiaaaGreat
open Go.RowKit

section
variable {s:Gc} {AA:AH} {AJ:Int} {S:List AE} {out:List AD} {t:Nat}
theorem parts_eq (out:List AD) (g:G9):∀ l:AH,(∀ b∈l,b.Size=40∨(b.Size=20∧b.High=false)) ->
  dC 40 g l=(((kept l out g).filter (fun b=>decide (b.Size=40))).length:Int)+(((gone l out g).filter (fun b=>decide (b.Size=40))).length:Int) ∧
  dC 20 g l=(((kept l out g).filter (fun b=>!decide (b.Size=40))).length:Int)+(((gone l out g).filter (fun b=>!decide (b.Size=40))).length:Int)
 | [],_=>by simp [dC,kept,gone]
 | b::l,h=>by
  obtain⟨i1,i2⟩:=parts_eq out g l (fun x hx=>h x (by simp [hx]));have hb:=h b (by simp);unfold dC kept gone at i1 i2 ⊢;rw [List.countP_cons,List.countP_cons,List.filter_cons,List.filter_cons,Jc6,Jc6];generalize List.filter (fun b=>inG g b&&!kG out b.ID) l=A at i1 i2 ⊢;generalize List.filter (fun b=>inG g b&&kG out b.ID) l=B at i1 i2 ⊢;generalize List.countP (hit g 40) l=c4 at i1 ⊢;generalize List.countP (hit g 20) l=c2 at i2 ⊢;cases inG g b with
  | false=>simp only [Bool.false_and,Bool.false_eq_true,if_false]; omega
  | true=>
   simp only [Bool.true_and];cases kG out b.ID with
   | true=>
    simp only [Bool.not_true,Bool.false_eq_true,if_false,if_true];rw [List.filter_cons,List.filter_cons];rcases hb with e | ⟨e,_⟩
    ·simp [e]; omega
    ·simp [e]; omega
   | false=>
    simp only [Bool.not_false,Bool.false_eq_true,if_false,if_true];rw [List.filter_cons,List.filter_cons];rcases hb with e | ⟨e,_⟩
    ·simp [e]; omega
    ·simp [e]; omega
structure Told (AA:AH) (c:G3):Prop where
 ok:eG c
 whole:c.Whole=dC 40 c.G9 AA
 half:c.Half=dC 20 c.G9 AA
 some:∃ b∈AA,b.Load=c.G9.Load∧b.AF=c.G9.AF
variable {T:Nat}
theorem J84 (h:iQ s AA AJ S out) (hk:t < S.length) (hT:∀ c∈s.AB,c.Tiers<=(T:Int)) {c:G3} (hg:G81 t c.G9) (hc:Told AA c) {v:Int} (i:QG (T:Int) c ((hs s AA out S t c.G9).length:Int) v) :
  v<=((gone AA out c.G9).length:Int):=by
 obtain⟨p1,p2⟩:=parts_eq out c.G9 AA (fun b hb=>(h.bok.each b hb).size);have h1:=J70 h hk hT hg;have h2:=J5b h hk hT hg;have h3:=GU (fun b:Box=>decide (b.Size=40)) (gone AA out c.G9);have hw:=hc.whole;have hh:=hc.half;rw [p1] at hw;rw [p2] at hh;generalize hN:(hs s AA out S t c.G9).length=n at h1 h2 i;generalize ((kept AA out c.G9).filter (fun b=>decide (b.Size=40))).length=w at h1 h2 hw;generalize ((kept AA out c.G9).filter (fun b=>!decide (b.Size=40))).length=q at h1 hh;generalize ((gone AA out c.G9).filter (fun b=>decide (b.Size=40))).length=wg at h3 hw;generalize ((gone AA out c.G9).filter (fun b=>!decide (b.Size=40))).length=qg at h3 hh;have e1:(w:Int)<=(T:Int)*((n:Int) / 2):=by
  have:((n / 2*T:Nat):Int)=(T:Int)*((n:Int) / 2):=by rw [Int.natCast_mul,Int.mul_comm]; rfl
  omega
 have e2:2*(w:Int)+q<=(T:Int)*(n:Int):=by
  have:((n*T:Nat):Int)=(T:Int)*(n:Int):=by rw [Int.natCast_mul,Int.mul_comm]
  omega
 have:=i.least w (by omega) (by omega) e1;omega
theorem H15 {F:Nat} (hF:60<=F) (h:iQ s AA AJ S out) (hk:t < S.length) (h5:T<=20) (hC:2*s.AB.length<=30) (hT:∀ c∈s.AB,c.Tiers<=(T:Int)) {l:AI} (hx:(l.map (·.G9)).Pairwise HI) (hl:∀ c∈l,G81 t c.G9∧Told AA c) {v:Int}
  (hv:sU F (T:Int) l (2*s.AB.length) v):v<=tot (fun c=>((gone AA out c.G9).length:Int)) l:=by
 have hw:sV (l.map (fun c=>(c,(hs s AA out S t c.G9).length)))<=2*s.AB.length:=by
  have:=G71 (l.map (fun c=>occ AA out S t c.G9)) (List.range (2*s.AB.length)) (by
   rw [List.pairwise_map] at hx ⊢;exact List.Pairwise.imp_of_mem (fun {a b} ha hb h3 p _=>J74 h hk (hl a ha).1 (hl b hb).1 h3 p) hx)
  rw [List.length_range,List.map_map] at this;unfold sV;rw [List.map_map];exact this
 have h0:∀ g,(hs s AA out S t g).length<=40:=fun g=>by
  have:=S3 (occ AA out S t g) (List.range (2*s.AB.length));rw [List.length_range] at this;unfold hs; omega
 refine Int.le_trans (hv.least _ (by rw [List.map_map]; exact List.map_id' _) hw) ?_;unfold iV;rw [List.map_map];clear hv hw hx
 induction l with
 | nil=>exact Int.le_refl _
 | cons c l ih=>
  obtain⟨h1,h2⟩:=hl c (by simp);have:=J84 h hk hT h1 h2 (rJ (F:=F) h2.ok ⟨by omega,by omega⟩ (h0 c.G9) hF).2;have ih:=ih (fun c' h4=>hl c' (by simp [h4]));rw [List.map_cons,List.sum_cons,tot];simp only [Function.comp] at ih ⊢;omega
theorem H87 (h:iQ s AA AJ S out) {l:AI} (hx:(l.map (·.G9)).Pairwise HI) (hl:∀ c∈l,Told AA c) (h0:0 < S.length):∃ t,t < S.length∧∀ c∈l,G81 t c.G9:=by
 rcases List.eq_nil_or_concat l with rfl | ⟨r,c,rfl⟩
 ·exact⟨0,h0,fun c hc=>(Se hc).elim⟩
 ·obtain⟨b,hb,e1,e2⟩:=(hl c (by simp)).some;obtain⟨_,_,b3,b4,b5⟩:=h.bok.each b hb;have h2:=h.len;refine⟨c.G9.Load.toNat,by omega,fun c' h1=>?_⟩;rw [List.concat_eq_append,List.map_append,List.pairwise_append] at hx;rw [List.concat_eq_append,St] at h1;unfold G81;rcases h1 with h1 | h1
  ·obtain⟨q1,q2,q3⟩:=hx.2.2 c'.G9 (Su.2 ⟨c',h1,rfl⟩) c.G9 (by simp);omega
  ·rw [Sv] at h1;subst h1;omega
theorem H37 {α:Type} {f:α->Int}:∀ ls:List (List α),tot f ls.flatten=tot (fun l=>tot f l) ls
 | []=>rfl
 | l::ls=>by rw [List.flatten_cons,zV,tot,H37 ls]
theorem G25 {α:Type} {f:α->Nat}:∀ l:List α,tot (fun x=>(f x:Int)) l=((l.map f).sum:Nat)
 | []=>rfl
 | x::l=>by rw [tot,G25 l,List.map_cons,List.sum_cons]; omega
theorem Gda:∀ out:List AD,zW out=(out.flatten.length:Int)
 | []=>rfl
 | x::l=>by
  have:=Gda l;unfold zW at this ⊢;rw [tot,this,List.flatten_cons,Sn]; omega
theorem Jc7 (h:iQ s AA AJ S out) {gs:List G9} (hn:gs.Nodup):tot (fun g=>((gone AA out g).length:Int)) gs<=zW out:=by
 rw [G25,Gda];have h1:=G71 (gs.map inG) (AA.filter (fun b=>kG out b.ID)) (by
  rw [List.pairwise_map];refine hn.imp (fun {a b} h0 x _ hh=>h0 ?_);have q1:=H0e.1 hh.1;have q2:=H0e.1 hh.2;cases a; cases b;simp only at q1 q2;congr 1 <;> omega)
 rw [List.map_map] at h1;have e:gs.map ((fun p=>((AA.filter (fun b=>kG out b.ID)).filter p).length) ∘ inG)=gs.map (fun g=>(gone AA out g).length):=by
  refine List.map_congr_left (fun g _=>?_);unfold gone;simp only [Function.comp];rw [List.filter_filter]
 rw [e] at h1;have h3:((AA.filter (fun b=>kG out b.ID)).map (·.ID)).Nodup:=dH (List.pairwise_map.2 (h.bok.sorted.filter _));have h2:=h3.length_le_of_subset (l₂:=out.flatten) (fun a ha=>by
  obtain⟨b,hb,rfl⟩:=Su.1 ha;obtain⟨x,hx,hy⟩:=List.any_eq_true.1 (Sx.1 hb).2;obtain⟨y,hy,e⟩:=List.any_eq_true.1 hy;have e:=S6 e;exact List.mem_flatten.2 ⟨x,hx,by rw [e]; exact hy⟩)
 rw [Ss] at h2;omega
theorem G6b {F:Nat} (hF:60<=F) (h:iQ s AA AJ S out) (h0:0 < S.length) (h2:T<=20) (hC:2*s.AB.length<=30) (hT:∀ c∈s.AB,c.Tiers<=(T:Int)) {fs:List (AI×Int)}
  (hf:∀ f∈fs,(f.1.map (·.G9)).Pairwise HI∧(∀ c∈f.1,Told AA c)∧sU F (T:Int) f.1 (2*s.AB.length) f.2) (hn:(fs.map (fun f=>f.1.map (·.G9))).flatten.Nodup):(fs.map (·.2)).sum<=zW out:=by
 refine Int.le_trans ?_ (Jc7 h hn);rw [H37];clear hn
 induction fs with
 | nil=>exact Int.le_refl _
 | cons f fs ih=>
  obtain⟨f1,f2,f3⟩:=hf f (by simp);obtain⟨t,ht,h3⟩:=H87 h f1 f2 h0;have h1:=H15 hF h ht h2 hC hT f1 (fun c hc=>⟨h3 c hc,f2 c hc⟩) f3;have ih:=ih (fun f' h4=>hf f' (by simp [h4]));have e:∀ l:AI,tot (fun c=>((gone AA out c.G9).length:Int)) l=tot (fun g=>((gone AA out g).length:Int)) (l.map (·.G9)):=by
   intro l
   induction l with
   | nil=>rfl
   | cons x l ih=>rw [List.map_cons,tot,tot,ih]
  rw [List.map_cons,List.sum_cons,List.map_cons,tot,<- e];omega
end

variable {s:Gc}
theorem Gfd (h1:s.AB≠[]):Wp (Zz s) (fun T=>(∀ c∈s.AB,c.Tiers<=T)∧∃ c∈s.AB,T=c.Tiers):=by
 unfold Zz;refine Ja (fun pre T=>pre≠[]->(∀ c∈pre,c.Tiers<=T)∧∃ c∈pre,T=c.Tiers) (fun h=>(h rfl).elim) (fun pre y post T nx e hI h3=>?_) (fun T hI=>Gx (hI h1));refine Rz (fun j=>(∀ c∈pre++[y],c.Tiers<=j)∧∃ c∈pre++[y],j=c.Tiers) (fun K hK=>Hr (fun h=>hK _ ⟨fun c hc=>?_,y,by simp,rfl⟩) (fun h=>?_)) (fun j hj=>h3 _ (fun _=>hj))
 ·rcases St.1 hc with hc | hc
  ·have h0:pre≠[]:=fun e0=>by rw [e0] at hc; exact Se hc
   have h2:¬ (pre.length:Int)=0:=fun e0=>h0 (S1 (by omega));simp only [Sy,Sr] at h;have:=(hI h0).1 c hc;rcases h with h | h
   ·exact(h2 h).elim
   ·omega
  ·rw [Sv.1 hc]; exact Int.le_refl _
 ·simp only [Sz,decide_eq_false_iff_not] at h;have h0:pre≠[]:=fun e0=>by rw [e0] at h; exact h.1 rfl
  obtain⟨g1,c0,g2,g3⟩:=hI h0;refine hK _ ⟨fun c hc=>?_,c0,St.2 (.inl g2),g3⟩;rcases St.1 hc with hc | hc
  ·exact g1 c hc
  ·rw [Sv.1 hc]; omega
variable {AJ:Int} {AA:AH}
theorem Qg.more (h:Qg AJ AA):Qg 20 AA:=
 ⟨by omega,h.len,fun b hb=>by have:=h.num; obtain⟨h1,h2,h3,h4,h5⟩:=h.each b hb; exact⟨h1,h2,h3,h4,by omega⟩,h.sorted⟩
theorem Jb5 (hs:Jh s=some true) (hb:Qg AJ AA):gJ s AA=some true:=by
 unfold gJ;rw [hs,cT];simp only [cond_true,GK hb.more,cT];rfl
theorem H7f (hb:Qg AJ AA):∃ g0,Z0 AA=some g0∧g0.length<=10∧(∀ c∈g0,Told AA c)∧(∀ a∈g0,∀ b∈g0,a.G9=b.G9->a=b)∧(g0.map (·.G9)).Nodup:=by
 have hl:=hb.len;obtain⟨l,e,h1,h2,h3,_⟩:=H10 AA (by omega);have h5:∀ i j (_:i < j) (hj:j < l.length),l[i].G9≠l[j].G9:=fun i j h6 hj h0=>by
  have:=h3 i j h6 hj;rw [lP,h0] at this;simp at this
 refine⟨l,e,by omega,fun c hc=>?_,fun a ha b h8 h0=>?_,?_⟩
 ·obtain⟨e1,e2,e3⟩:=h2 c hc;have g1:=rT 40 c.G9 AA;have g2:=rT 20 c.G9 AA;refine⟨⟨by omega,by omega⟩,e1,e2,?_⟩;have h7:∀ z,0 < dC z c.G9 AA->∃ b∈AA,b.Load=c.G9.Load∧b.AF=c.G9.AF:=fun z hz=>by
   unfold dC at hz;obtain⟨b,h9,h4⟩:=List.countP_pos_iff.1 (by omega:0 < AA.countP (hit c.G9 z));unfold hit at h4;simp only [Sq,Sr] at h4;exact⟨b,h9,h4.1.1,h4.1.2⟩
  rcases (show 0 < dC 40 c.G9 AA∨0 < dC 20 c.G9 AA by omega) with h | h
  ·exact h7 40 h
  ·exact h7 20 h
 ·obtain⟨i,hi,rfl⟩:=List.mem_iff_getElem.1 ha;obtain⟨j,hj,rfl⟩:=List.mem_iff_getElem.1 h8;rcases Nat.lt_trichotomy i j with h | h | h
  ·exact(h5 i j h hj h0).elim
  ·subst h; rfl
  ·exact(h5 j i h hi h0.symm).elim
 ·refine List.pairwise_map.2 (List.pairwise_iff_getElem.2 (fun i j hi hj h6=>h5 i j h6 hj))
def Q31 (F:Nat):Prop:=∀ n:Nat,n<=13->Rk F [(-1)] (((2*n:Nat):Int)+1)=some (List.replicate (2*n+1) (-1))
theorem Q72:Q31 60:=by
 intro n hn;have h:(List.range 14).all (fun n=>decide (Rk 60 [(-1)] (((2*n:Nat):Int)+1)=some (List.replicate (2*n+1) (-1))))=true:=by kernel_rfl
 exact S6 (List.all_eq_true.1 h n (List.mem_range.2 (by omega)))

structure FamW (F:Nat) (s:Gc) (g0:AI) (f:AI×Int):Prop where
 sub:∀ c∈f.1,c∈g0
 cross:(f.1.map (·.G9)).Pairwise HI
 len:f.1.length<=20
 val:Zp F s f.1=some f.2
 pos:0<=f.2∧f.2<=400
theorem Jc8 {F:Nat} (hF:60<=F) (h9:Q31 F) {S:List AE} {out:List AD} (hB:pI s) (h3:iQ s AA AJ S out) :
  Wp (iT F s AA) (fun r=>r.2.2=0∧r.2.1<=zW out):=by
 have hb:=h3.bok;have b1:s.AB.length<=12:=hB.BU.len;have h5:=hB.some;have b2:=h3.len;have b3:=hb.num;obtain⟨g0,hg,a7,h6,b5,b6⟩:=H7f hb;have hr:=Jb5 (H8d hB).right hb;have h4:∀ c∈g0,eG c:=fun c hc=>(h6 c hc).ok;obtain⟨T,eT,a8,c1,a0,b7⟩:=Gfd (s:=s) (fun e=>by rw [e] at h5; simp at h5);have a9:0<=T∧T<=10:=by have:=(hB.BU.each c1 a0).BS; omega
 have h7:∀ ls:AI,(∀ c∈ls,eG c)->ls.length<=20->Wp (Zp F s ls) (fun v=>sU F T ls (2*s.AB.length) v∧0<=v∧v<=400):=fun ls h1 h2=>
  J20 eT ⟨a9.1,by omega⟩ rfl (by omega) (h9 s.AB.length (by omega)) h1 h2 hF
 have a6:∀ {v:Int},sU F T [] (2*s.AB.length) v->v=0:=fun {v} h=>by
  obtain⟨ps,e1,_,e3⟩:=h.att;rw [List.map_eq_nil_iff.1 e1] at e3;exact e3.symm
 have h8:((T.toNat:Nat):Int)=T:=by omega
 have main:∀ fs:List (AI×Int),(∀ f∈fs,FamW F s g0 f)->(fS fs).flatten.Nodup->(fs.map (·.2)).sum<=zW out:=fun fs h1 h2=>by
  refine G6b hF h3 (by omega) (T:=T.toNat) (by omega) (by omega) (fun c hc=>by rw [h8]; exact a8 c hc) (fun f hf=>?_) h2;obtain⟨a1,a2,a3,a4,a5⟩:=h1 f hf;refine⟨a2,fun c hc=>h6 c (a1 c hc),?_⟩;obtain⟨v,ev,hv,_⟩:=h7 f.1 (fun c hc=>h4 c (a1 c hc)) a3;rw [a4] at ev;rw [h8,Sc ev]; exact hv
 refine wp_mono (J1b hr hg h4 a7 (fun ls h1 h2=>wp_mono (h7 ls h1 h2) (fun v hv=>⟨hv.2.1,hv.2.2,fun e=>by subst e; exact a6 hv.1⟩)) hF) (fun r13 b0=>?_);obtain⟨e13,fs,e1,h0,b8⟩:=b0;refine⟨e13,?_⟩;rw [h0.sum_eq];refine main fs (fun f hf=>?_) h0.nodup;have h:=h0.each f hf;have b4:=h.pos;exact⟨h.sub,h.cross,by have:=h.len; omega,h.val,by omega⟩

theorem G23 {l:List Gu} {most:Nat} (hm:most<=8) (hi:∀ x∈l,sS x):Wp (Yh l (most:Int)) (fun r=>∀ x∈r,sS x∧x.Small=false):=by
 unfold Yh;refine H6 (aY (m:=min l.length most) (by omega) (by omega) ?_);have h0:(l.take (min l.length most)).length<=8:=by rw [List.length_take]; omega
 refine Ja (fun pre st=>st.length=pre.length∧∀ x∈st,sS x∧x.Small=false) ⟨rfl,fun x h=>(Se h).elim⟩ (fun pre y post st nx e hI h3=>?_) (fun st hI=>Gx hI.2);obtain⟨h1,h2⟩:=hI;have hy:sS y:=hi y (List.mem_of_mem_take (by rw [e]; simp:y∈l.take (min l.length most)));have hp:pre.length < 8:=by rw [e] at h0; simp only [Sn,Si] at h0; omega
 refine Ji (Qp (by rw [Sp]; omega) (by omega)) (h3 _ ⟨by simp [h1],fun x hx=>?_⟩);rcases St.1 hx with hx | hx
 ·exact h2 x hx
 ·rw [Sv] at hx;subst hx;exact⟨⟨hy.AQ,hy.kilos,hy.load,hy.stay⟩,rfl⟩

theorem Jf1 {p:cA} {out:List AD} (hb:Qg AJ AA) (hp:vE s AA AJ p) (h1:out.length=p.AO.length) (h4:∀ k x,out[k]? = some x->G7f s p.AO k x):iQ s AA AJ p.AO out:=by
 refine⟨hb,hp.len,fun k hk=>?_,fun k hk=>?_⟩
 ·have h0:p.AO[k]? = some p.AO[k]:=by simp
  unfold stK;rw [h0];exact hp.each k _ h0
 ·have h0:out[k]? = some (out[k]'(by omega)):=by simp
  obtain⟨af,L,h1,_,h2,h3,_⟩:=h4 k _ h0;have h5:stK p.AO k=af:=by unfold stK; rw [h1]; rfl
  rw [h5];exact⟨L,_,h0,h2,h3⟩
def mU:G7:=G7.mk 30 0 false 1 0 0 0 0 [] 0 0 0
theorem H0b:Zx mU=some true:=by
 unfold Zx mU;simp only;rw [each,GJ]
 ·rfl
 ·intro x hx;simp only [Sw,Se,or_false] at hx;rcases hx with rfl | rfl | rfl | rfl | rfl | rfl | rfl | rfl | rfl | rfl <;> simp only <;> omega
theorem Gf1 (h:pI s):Jh (Gc.mk (s.AB++[mU]) s.AR s.Light s.Rows s.Frames s.BQ s.Gk)=some true:=by
 obtain⟨⟨a1,a2,a3⟩,a4,a5,a6⟩:=vB h;have hc:=h.BU.len;refine wO ⟨⟨by show 1<=(s.AB++[mU]).length; simp,by show (s.AB++[mU]).length<=200; rw [Sn,Sp]; omega,a3⟩,fun c h0=>?_,a5,?_⟩
 ·rcases St.1 h0 with h0 | h0
  ·exact a4 c h0
  ·rw [Sv.1 h0];exact H0b
 ·show ((s.AB++[mU]).map k3++s.AR.flatMap x3).Nodup
  obtain⟨b1,b2,b3⟩:=List.nodup_append.1 a6;rw [List.map_append];refine List.nodup_append.2 ⟨List.nodup_append.2 ⟨b1,by simp,fun a ha b hb e=>?_⟩,b2,fun a ha b hb e=>?_⟩
  ·obtain⟨c',h1,rfl⟩:=Su.1 hb;rw [Sv.1 h1] at e;obtain⟨c,h0,rfl⟩:=Su.1 ha;have:=(h.BU.each c h0).bay;simp only [k3,mU,Hk.mk.injEq] at e;omega
  ·rcases St.1 ha with ha | ha
   ·exact b3 a ha b hb e
   ·obtain⟨c',h1,rfl⟩:=Su.1 ha;rw [Sv.1 h1] at e;obtain⟨x,hx,h2⟩:=List.mem_flatMap.1 hb;obtain⟨r,_,rfl⟩:=Su.1 h2;have:=(h.covs.each x hx).bay;simp only [k3,mU,Hk.mk.injEq] at e;omega
theorem Gf0 {w:Gc} (h:jA s) (hf:s.AB.length < 3) (hw:w=Gc.mk (s.AB++[mU]) s.AR s.Light s.Rows s.Frames s.BQ s.Gk):Small w∧nA w:=by
 have hr:=Gf1 h.built;rw [<- hw] at hr;have h0:w.AB=s.AB++[mU]:=by rw [hw]
 have h1:w.AR=s.AR:=by rw [hw]
 have h5:w.AB.length=s.AB.length+1:=by rw [h0,Sn,Sp]
 have h2:=h.sm;have h4:=h.small;have h3:∀ c∈w.AB,0<=c.Tiers∧c.Tiers<=3:=fun c hc=>by
  rw [h0] at hc;rcases St.1 hc with hc | hc
  ·exact h4.BS c hc
  ·rw [Sv.1 hc];exact⟨by decide,by decide⟩
 exact⟨⟨hr,⟨by omega,by omega⟩,fun c hc=>by have:=h3 c hc; omega,by rw [h1]; exact h2.covs,fun x hx=>by rw [h1] at hx; exact h2.rows x hx⟩,⟨hr,by omega,h3⟩⟩
theorem J7c {k:Nat} (hb:Qg AJ AA) (hk:k < AA.length):Qg AJ (AA.take k++AA.drop (k+1))∧Jd5 AA (AA.take k++AA.drop (k+1)) AA[k].ID:=by
 have e:AA.take k++AA[k]::AA.drop (k+1)=AA:=by rw [List.getElem_cons_drop,List.take_append_drop]
 have h0:(AA.take k++AA.drop (k+1)).Sublist AA:=by
  rw [<- List.eraseIdx_eq_take_drop_succ];exact List.eraseIdx_sublist ..
 have hs:=hb.sorted;rw [<- e] at hs;obtain⟨_,p2,p3⟩:=List.pairwise_append.1 hs;refine⟨⟨hb.num,Nat.le_trans h0.length_le hb.len,fun b h=>hb.each b (h0.subset h),hb.sorted.sublist h0⟩,fun b h=>⟨h0.subset h,?_⟩,fun b h h1=>?_⟩
 ·rcases St.1 h with h | h
  ·have:=p3 b h AA[k] (List.mem_cons_self ..);omega
  ·have:=(List.pairwise_cons.1 p2).1 b h;omega
 ·rw [<- e] at h;rcases St.1 h with h | h
  ·exact St.2 (.inl h)
  ·rcases Sw.1 h with h | h
   ·rw [h] at h1;exact(h1 rfl).elim
   ·exact St.2 (.inr h)
theorem J10 (l:List Hc) (BB:Int) (items:List Gu) (n which:Int) (hp:∀ p∈l,vF p) (hi:∀ x∈items,sS x) (hn:Byte n) (hw:Byte which):Z3 60 l BB items n which=some true:=by
 refine eF ?_;unfold Z3;refine H6 (wp_mono (QR l BB hp) fun s hT=>?_);obtain⟨n1,n2⟩:=hn;refine Hy ⟨by omega,by omega⟩ (H6 (gS (by omega) ?_));rw [show n.tmod 3=n % 3 from Int.tmod_eq_emod_of_nonneg n1];obtain⟨N,hN⟩:∃ N:Nat,2+n % 3=(N:Int):=⟨(2+n % 3).toNat,by omega⟩;have b6:2<=N∧N<=4:=by omega
 rw [hN];refine Hy ⟨by omega,by omega⟩ ?_;have h0:=hT.sm;have h9:=hT.small;have a1:=hT.flat;refine Rz (fun j:Int=>∃ m:Nat,j=(m:Int)∧m<=3) (fun K hK=>Hr (fun _=>hK _ ⟨2,rfl,by omega⟩) (fun _=>hK _ ⟨3,rfl,by omega⟩)) (fun j hj=>?_);obtain⟨m,rfl,hm⟩:=hj;refine H6 (wp_mono (G23 (most:=m) (by omega) hi) fun its a3=>?_);refine H6 (wp_mono (zO (most:=m) (s:=s) (AJ:=(N:Int)) (F:=60) (by omega) h0 a3 (by omega) (by omega)) fun r12 a5=>?_);obtain⟨hb,h5,b7,h1⟩:=a5;have b3:=h5.len;have a6:∀ k:Nat,k < N->∃ a,Z1 s r12.1 (k:Int) a:=fun k hk=>⟨r12.2.AO[k]'(by omega),h5.each k _ (Sb _)⟩;refine H6 (wp_mono (qK h0 h9 hb h1 (by omega) (by omega) a6) fun r14 hL=>?_);refine H6 (wp_mono (Ge1 h0 hb hL.plan) fun r16 a7=>?_);obtain⟨c1,c2,out,c3,c4,c5,c6⟩:=a7;refine H6 (wp_mono (Ge1 h0 hb h5) fun r18 a8=>?_);obtain⟨d1,d2,_⟩:=a8;refine H6 (wp_mono (Jc8 (F:=60) (by omega) Q72 hT.built (Jf1 hb hL.plan c3 c6)) fun r20 a9=>?_);obtain⟨f1,f2⟩:=a9;have ho:=hL.ok;have b4:=hL.least r12.2.AO (by omega) (fun k a h=>h5.each k a h);have b5:=hL.sum;have b8:=hL.plan.len;rw [ho,c1,d1,f1];refine Hy ⟨by decide,by decide⟩ (Hy ⟨by decide,by decide⟩ (Hy ⟨by decide,by decide⟩ (Hr (fun h=>?_) (fun _=>?_))))
 ·simp only [Sy,Sr] at h;omega
 refine Rz (fun _=>True) (fun K hK=>Hr (fun h3=>?_) (fun _=>hK _ trivial)) (fun _ _=>?_)
 ·have h3:=S6 h3;obtain⟨w1,w2⟩:=hw;refine Hy ⟨by omega,by omega⟩ (H6 (gS (by omega) ?_));rw [show which.tmod (r12.1.length:Int)=which % (r12.1.length:Int) from Int.tmod_eq_emod_of_nonneg w1];have b9:=Int.emod_nonneg which (show (r12.1.length:Int)≠0 by omega);have b0:=Int.emod_lt_of_pos which h3;obtain⟨k,hk⟩:∃ k:Nat,which % (r12.1.length:Int)=(k:Int):=⟨(which % (r12.1.length:Int)).toNat,by omega⟩;rw [hk] at b0 ⊢;have b1:k < r12.1.length:=by omega
  have c0:(r12.1.take k).length<=3:=by rw [List.length_take]; omega
  have c7:(r12.1.drop (k+1)).length<=3:=by rw [List.length_drop]; omega
  refine H6 (aY (m:=k) rfl (by omega) (Ji ?_ (Hy ⟨by omega,by omega⟩ (H6 (aY (m:=k+1) (by omega) (by omega) (Ji ?_ ?_))))))
  ·exact Qp (by rw [List.length_nil]; omega) (by omega)
  ·exact Qp (by rw [List.nil_append]; omega) (by omega)
  ·rw [List.nil_append];obtain⟨q1,q2⟩:=J7c hb b1;have q40:∀ b∈r12.1.take k++r12.1.drop (k+1),b.Size=40:=fun b h=>h1 b (q2.sub b h).1;have qst:∀ (j:Nat) a,r14.1.AO[j]? = some a->Z1 s (r12.1.take k++r12.1.drop (k+1)) (j:Int) (eJ r12.1[k].ID a):=fun j a h=>GX a1 h1 hb q1 q2 (hL.plan.each j a h);refine H6 (wp_mono (qK h0 h9 q1 q40 (by rw [Sn,List.length_take,List.length_drop]; omega) (by omega) (fun j hj=>⟨_,qst j (r14.1.AO[j]'(by omega)) (Sb _)⟩)) fun r39 h2=>?_);have g1:=h2.least (r14.1.AO.map (eJ r12.1[k].ID)) (by rw [Ss]; omega) (fun j a h=>by
    rw [Sj] at h;obtain⟨a0,b2,rfl⟩:=Option.map_eq_some_iff.1 h;exact qst j a0 b2)
   have g2:=Gff (R:=gL 60 s r12.1) (R':=gL 60 s (r12.1.take k++r12.1.drop (k+1))) (f:=eJ r12.1[k].ID) r14.1.AO (fun i a b ha h7=>J88 h0 a1 h1 hb q1 q2 (hL.plan.each i a ha) (hL.plan.each (i+1) b h7) (by omega) (by rw [Sn]; omega));have g3:=h2.ok;refine Hr (fun h=>?_) (fun _=>hK _ trivial);simp only [Sy,Sr] at h;omega
 refine Rz (fun _=>True) (fun K hK=>Hr (fun h4=>?_) (fun _=>hK _ trivial)) (fun _ _=>Gv (x:=true) G1e Gx);have h4:s.AB.length < 3:=by have:=S6 h4; omega
 refine Ji (Qp (by rw [List.length_nil]; omega) (by omega)) (Ji (Qp (by rw [List.nil_append,Sp]; omega) (by omega)) ?_);rw [List.nil_append];obtain⟨w,h6⟩:∃ w,w=Gc.mk (s.AB++[mU]) s.AR s.Light s.Rows s.Frames s.BQ s.Gk:=⟨_,rfl⟩;obtain⟨v1,v2⟩:=Gf0 hT h4 h6;have h8:w.AB=s.AB++[mU]:=by rw [h6]
 have a4:w.AR=s.AR:=by rw [h6]
 have a2:∀ (j:Nat) a,r14.1.AO[j]? = some a->Z1 w r12.1 (j:Int) a:=fun j a h=>zU h8 (by decide) (hL.plan.each j a h);show Wp (bnd (Hx 60 (Gc.mk (s.AB++[mU]) s.AR s.Light s.Rows s.Frames s.BQ s.Gk) r12.1 (N:Int)) _) _
 rw [<- h6];refine H6 (wp_mono (qK v1 v2 hb h1 (by omega) (by omega) (fun j hj=>⟨_,a2 j (r14.1.AO[j]'(by omega)) (Sb _)⟩)) fun r49 h2=>?_);have g1:=h2.least r14.1.AO (by omega) a2;have g2:=Gff (R:=gL 60 s r12.1) (R':=gL 60 w r12.1) (f:=id) r14.1.AO (fun i a b ha h7=>J5a h0 v1 h8 a4 (by decide) (hL.plan.each i a ha) (hL.plan.each (i+1) b h7) (by omega));rw [List.map_id] at g2;have g3:=h2.ok;refine Hr (fun h=>?_) (fun _=>hK _ trivial);simp only [Sy,Sr] at h;omega
end Go.Proofs.YtibhpogonkdiaaaGreat
