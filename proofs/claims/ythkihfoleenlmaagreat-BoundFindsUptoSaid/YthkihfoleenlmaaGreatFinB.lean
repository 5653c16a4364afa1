/- Find of chapter 27: -/
import Derived.Test.YthkihfoleenlmaaGreatFinA
set_option maxRecDepth 100000
set_option linter.unusedVariables false
namespace Go.Proofs.YthkihfoleenlmaaGreat
open Go.RowKit

theorem G5c {F:Nat} {l:List G1} {del:G1→Option Bool} {p:G1→Bool} (hd:∀ x∈l,del x=some (p x)) (hF:l.length+2≤F) (hl:l.length≤100000):Qm F l del=some (l.filter (fun x=>!p x)):=by
 refine gA ?_
 unfold Qm
 have hi:Qp l del=some (YG p l):=yH hd
 refine Hh hi ?_
 rcases wW p l with ⟨h1,h2,_⟩ | ⟨m,x,h1,h2,h3,h4⟩
 ·rw [h1]
  refine J8 (fun _=>H4 ?_) (fun h=>by simp at h)
  exact(List.filter_eq_self.2 (fun a ha=>by rw [h2 a ha]; rfl)).symm
 ·have hm:=(Nt h2).1
  rw [h1]
  refine J8 (fun h=>?_) (fun _=>?_)
  ·have:=Np h; omega
  refine Ji ⟨by omega,by omega⟩ ?_
  have h6:∀ k,k < m→∀ y,l[k]? = some y→p y=false:=by
   intro k hk y hy
   obtain⟨_,j,hj,b0,a9⟩:=List.find?_eq_some_iff_getElem.1 h4
   have a0:l.findIdx? p=some m:=by
    have h5:=h1
    unfold YG at h5
    cases hf:l.findIdx? p with
    | none=>rw [hf] at h5; simp only at h5; omega
    | some j2=>rw [hf] at h5; simp only at h5; rw [show j2=m by omega]
   obtain⟨_,_,hb⟩:=List.findIdx?_eq_some_iff_getElem.1 a0
   have:=hb k hk
   have a3:=(Nt hy)
   obtain⟨b1,e⟩:=a3
   rw [e] at this
   simpa using this
  refine wp_loop (fun st=>∃ i j:Nat,st.1=(i:Int)∧st.2.1=(j:Int)∧i < j∧j≤l.length∧st.2.2.length=l.length∧st.2.2.take i=(l.take j).filter (fun x=>!p x)∧st.2.2.drop j=l.drop j) (fun st=>l.length+1 - st.2.1.toNat)
   ⟨m,m+1,rfl,rfl,by omega,by omega,rfl,?_,rfl⟩ (by show l.length+1 - ((m:Int)+1).toNat < F; omega) (fun st nx hI a4=>?_)
  ·rw [List.take_add_one,h2,List.filter_append]
   simp only [Option.toList_some,List.filter_cons,h3,Bool.not_true,Bool.false_eq_true,if_false,List.filter_nil,List.append_nil]
   refine(List.filter_eq_self.2 (fun a ha=>?_)).symm
   obtain⟨k,hk⟩:=List.mem_iff_getElem?.1 ha
   have h8:k < m:=by
    have:=(Nt hk).1
    rw [List.length_take] at this; omega
   rw [List.getElem?_take_of_lt h8] at hk
   rw [h6 k h8 a hk]; rfl
  ·obtain⟨a1,a2,cur⟩:=st
   obtain⟨i,j,e1,e2,b2,b3,h7,ht,h0⟩:=hI
   simp only at e1 e2 h7 ht h0 ⊢
   subst e1 e2
   refine J8 (fun h=>?_) (fun h=>?_)
   ·have hj:j < l.length:=by have:=Np h; omega
    have a5:cur[j]? = some l[j]:=by
     have:(cur.drop j)[0]? = (l.drop j)[0]? := by rw [h0]
     rw [P4,P4] at this
     simpa [hj] using this
    have h9:l[j]? = some l[j]:=by simp [hj]
    refine lW (fun st=>∃ i':Nat,st.1=(i':Int)∧i' < j+1∧st.2.length=l.length∧st.2.take i'=(l.take (j+1)).filter (fun x=>!p x)∧st.2.drop (j+1)=l.drop (j+1)) (fun K hK=>?_) (fun st a6=>?_)
    ·refine Qs rfl a5 (Hh (hd l[j] (List.getElem_mem hj)) (J8 (fun hp=>?_) (fun hp=>hK _ ?_)))
     ·have a7:cur[i]? = some (cur[i]'(by omega)):=Nu (by omega)
      refine Qs rfl a7 (Ji ⟨by omega,by omega⟩ (hK _ ⟨i+1,rfl,by omega,by simpa using h7,?_,?_⟩))
      ·simp only [Int.toNat_natCast]
       rw [List.take_add_one,List.take_set_of_le (Ny),ht,List.take_add_one,h9,List.filter_append]
       have:(cur.set i l[j])[i]? = some l[j]:=by rw [List.getElem?_set_self (by omega)]
       rw [this]
       simp [hp]
      ·simp only [Int.toNat_natCast]
       rw [List.drop_set_of_lt (by omega)]
       have:=congrArg (List.drop 1) h0
       rw [List.drop_drop,List.drop_drop] at this
       exact this
     ·refine⟨i,rfl,by omega,h7,?_,?_⟩
      ·rw [ht,List.take_add_one,h9,List.filter_append]
       simp [hp]
      ·have:=congrArg (List.drop 1) h0
       rw [List.drop_drop,List.drop_drop] at this
       exact this
    ·obtain⟨i',g1,g2,g3,g4,g5⟩:=a6
     refine Ji ⟨by omega,by omega⟩ (a4 _ ⟨i',j+1,g1,by simp,g2,by omega,g3,g4,g5⟩ ?_)
     simp only
     omega
   ·have hj:j=l.length:=by have:=Nq h; omega
    subst hj
    have a8:(blank cur i (cur.length - i) (G1.mk (G5.mk 0 0) 0 0)).length=cur.length:=by
     unfold blank
     simp only [P5,List.length_take,List.length_replicate,List.length_drop]
     omega
    refine Jp (tD rfl (by omega) (Jp (tD rfl (by rw [a8]; omega) (H4 ?_))))
    unfold blank
    rw [List.append_assoc,List.take_left' (by rw [List.length_take]; omega),ht,List.take_length]

def allT:G1→Bool:=fun _=>true
def bF (cs:List G1) (k:Nat):List G1:=(chn (onL cs (k:Int)) allT).1
def cW (bv:List G5→Int):List (List G1)→List G1×Int→List G1×Int
 | [],s=>s
 | x::r,s=>cW bv r (if s.2 < bv (x.map (·.G5)) then (x,bv (x.map (·.G5))) else s)
theorem uK {bv:List G5→Int}:∀ {l:List (List G1)} {x:List G1} {s:List G1×Int},cW bv (l++[x]) s=if (cW bv l s).2 < bv (x.map (·.G5)) then (x,bv (x.map (·.G5))) else cW bv l s
 | [],_,_=>rfl
 | y::l,x,s=>by
  rw [List.cons_append,cW,cW]
  exact uK
theorem sN {bv:List G5→Int}:∀ {l:List (List G1)} {s:List G1×Int},cW bv l s=s∨((cW bv l s).1∈l∧(cW bv l s).2=bv ((cW bv l s).1.map (·.G5))∧s.2 < (cW bv l s).2)
 | [],_=>.inl rfl
 | x::l,s=>by
  rw [cW]
  by_cases h:s.2 < bv (x.map (·.G5))
  ·rw [if_pos h]
   rcases @sN bv l (x,bv (x.map (·.G5))) with e | ⟨e1,e2,e3⟩
   ·rw [e]; exact .inr ⟨List.mem_cons_self ..,rfl,h⟩
   ·exact .inr ⟨List.mem_cons_of_mem _ e1,e2,Int.lt_trans h e3⟩
  ·rw [if_neg h]
   rcases @sN bv l s with e | ⟨e1,e2,e3⟩
   ·exact .inl e
   ·exact .inr ⟨List.mem_cons_of_mem _ e1,e2,e3⟩
def uG (cs:List G1):List (List G1):=(List.range 20).map (bF cs)
def Zk (bv:List G5→Int) (cs:List G1):List G1×Int:=cW bv (uG cs) ([],0)
def YM (l:List G5) (cs:List G1):List G1:=cs.filter (fun c=>!(l.any (fun y=>decide (c.G5=y))))
def QB (bv:List G5→Int):Nat→List G1→List (List G5)→Int→List (List G5)×Int
 | 0,_,fs,sm=>(fs,sm)
 | n+1,cs,fs,sm=>if (Zk bv cs).2=0 then (fs,sm) else QB bv n (YM ((Zk bv cs).1.map (·.G5)) cs) (fs++[(Zk bv cs).1.map (·.G5)]) (sm+(Zk bv cs).2)

theorem uI {cs:List G1} {k:Nat}:(∀ c∈bF cs k,c∈cs∧c.G5.Load≤(k:Int)∧(k:Int) < c.G5.Discharge)∧(bF cs k).Pairwise (fun a b=>cX a b=true)∧(bF cs k).length≤cs.length:=by
 obtain⟨h1,_,h3⟩:=@G5d (onL cs (k:Int)) allT
 refine⟨fun c hc=>?_,h3,Nat.le_trans QQ (Nk ..)⟩
 obtain⟨a,b⟩:=Pe.1 (h1 c hc)
 rw [P7,P8,P8] at b
 exact⟨a,b⟩
theorem J22 {cs:List G1} {k:Nat}:(cs.map toR).filter (fun c=>decide (c.G5.Load≤(k:Int))&&decide ((k:Int) < c.G5.Discharge))=(onL cs (k:Int)).map toR:=by
 rw [List.filter_map]
 rfl

section
variable {F:Nat} {s:H2} {bx:List Box} {T:Int} {g0:List G1} {bv:List G5→Int}
structure Left (bx:List Box) (g0:List G1) (bv:List G5→Int) (R:List (List G5)×Int) (n:Nat) (cs:List G1) (fs:List (List G5)) (sm:Int):Prop where
 lt:cs.length < n
 sub:∀ c∈cs,c∈g0
 len:fs.length+cs.length≤12
 sum:0≤sm∧sm+288*(cs.length:Int)≤4000
 fin:QB bv n cs fs sm=R
theorem qS (h:yO F F s bx T g0 bv) {c:G1} (hc:c∈g0):Zi c∧1≤wtC c∧c=G10 bx c.G5∧nz bx c.G5:=by
 obtain⟨a,b⟩:=h.groups.each c hc
 have hk:Zi c:=by rw [a]; exact yJ h.num c.G5
 refine⟨hk,?_,a,b⟩
 have e1:c.Whole=Zm 40 c.G5 bx:=congrArg (·.Whole) a
 have e2:c.Half=Zm 20 c.G5 bx:=congrArg (·.Half) a
 obtain⟨⟨w1,w2⟩,⟨v1,v2⟩⟩:=hk
 unfold nz at b
 unfold wtC
 omega
theorem J25 (h:yO F F s bx T g0 bv) {x:List G1} (hx:∀ c∈x,c∈g0):(x.map (·.G5)).map (G10 bx)=x:=by
 rw [List.map_map]
 have:x.map (fun c=>c)=x:=List.map_id'' (fun _=>rfl) x
 conv=>rhs; rw [← this]
 exact List.map_congr_left fun c hc=>(qS h (hx c hc)).2.2.1.symm
theorem J6f (h:yO F F s bx T g0 bv) (hF:100≤F):bv []=0:=by
 have h1:=h.hT
 have:=(h.best [] (by simp)).bounds (by omega) ⟨by omega,by omega⟩ (fun c hc=>(Nx hc).elim) (by have:=h.cols; omega)
 simp only [List.map_nil,List.length_nil] at this
 omega
theorem GF (h:yO F F s bx T g0 bv) {cs:List G1} (hs:∀ c∈cs,c∈g0) (hl:cs.length≤12) (k:Nat) :
  Gdf bx ((bF cs k).map (·.G5))∧(bF cs k).length≤12∧(∀ c∈bF cs k,c∈g0):=by
 obtain⟨h1,h2,h3⟩:=@uI cs k
 refine⟨⟨fun g hg=>?_,List.pairwise_map.2 (h2.imp_of_mem fun {a b} ha hb h0=>?_)⟩,by omega,fun c hc=>hs c (h1 c hc).1⟩
 ·obtain⟨c,hc,rfl⟩:=Pb.1 hg
  exact(qS h (hs c (h1 c hc).1)).2.2.2
 ·have:=h1 a ha
  have:=h1 b hb
  unfold cX at h0
  rw [P7,P8,P8] at h0
  exact⟨h0.1,by omega,h0.2⟩
theorem Left.step (h:yO F F s bx T g0 bv) (hF:100≤F) {R:List (List G5)×Int} {n:Nat} {cs:List G1} {fs:List (List G5)} {sm:Int} (hI:Left bx g0 bv R n cs fs sm) :
  ((Zk bv cs).2=0∧R=(fs,sm))∨((Zk bv cs).2≠0∧0≤(Zk bv cs).2∧(Zk bv cs).2≤288∧(Zk bv cs).1.length≤12∧(YM ((Zk bv cs).1.map (·.G5)) cs).length < cs.length ∧
   Left bx g0 bv R (n - 1) (YM ((Zk bv cs).1.map (·.G5)) cs) (fs++[(Zk bv cs).1.map (·.G5)]) (sm+(Zk bv cs).2)):=by
 obtain⟨lt,sub,len,sum,fin⟩:=hI
 obtain⟨m,rfl⟩:∃ m,n=m+1:=⟨n - 1,by omega⟩
 rw [QB] at fin
 by_cases h0:(Zk bv cs).2=0
 ·rw [if_pos h0] at fin
  exact .inl ⟨h0,fin.symm⟩
 rw [if_neg h0] at fin
 refine .inr ⟨h0,?_⟩
 rcases @sN bv (uG cs) ([],0) with e | ⟨e1,e2,e3⟩
 ·exact(h0 (congrArg Prod.snd e)).elim
 change (Zk bv cs).1∈_ at e1
 change (Zk bv cs).2=bv ((Zk bv cs).1.map (·.G5)) at e2
 change 0 < (Zk bv cs).2 at e3
 obtain⟨k,_,ek⟩:=Pb.1 e1
 obtain⟨f1,f2,f3⟩:=GF h sub (by omega) k
 obtain⟨g1,_,_⟩:=@uI cs k
 rw [ek] at f2 g1
 have hb:=h.bounds hF (l:=(Zk bv cs).1.map (·.G5)) (by rw [P9]; exact f2)
 rw [← e2] at hb
 have h2:(Zk bv cs).1≠[]:=fun e=>by
  rw [e] at e2
  have:=J6f h hF
  rw [List.map_nil] at e2
  omega
 obtain⟨c0,h1⟩:=List.exists_mem_of_ne_nil _ h2
 have h3:(YM ((Zk bv cs).1.map (·.G5)) cs).length < cs.length:=by
  refine List.length_filter_lt_length_iff_exists.2 ⟨c0,(g1 c0 h1).1,?_⟩
  rw [List.any_eq_true.2 ⟨c0.G5,Pb.2 ⟨c0,h1,rfl⟩,Nr rfl⟩]
  exact Bool.false_ne_true
 refine⟨hb.1,hb.2,f2,h3,⟨?_,fun c hc=>sub c (Pe.1 hc).1,?_,⟨by omega,by omega⟩,fin⟩⟩
 ·rw [Nat.add_sub_cancel]; omega
 ·rw [P5,P6]; omega

theorem H92 (l:List G5) (v:G5):Yd l v=some (l.any (fun y=>decide (v=y))):=by
 unfold Yd
 have h:Zd l v=some (YG (fun y=>decide (v=y)) l):=by
  unfold Zd
  exact yH (f:=fun y=>some (decide (v=y))) (fun x _=>rfl)
 rw [h,yL,JM]
theorem Gcb {all:List (List G1)} {num:List G1→Option Int} (hv:∀ x∈all,num x=some (bv (x.map (·.G5)))) :
  R1 all num=some (cW bv all ([],0)):=by
 refine gA ?_
 unfold R1
 refine Rv (fun pre s=>s=cW bv pre ([],0)) rfl (fun pre y post s nx e hI h0=>?_) (fun s hI=>H4 hI)
 refine lW (fun s=>s=cW bv (pre++[y]) ([],0)) (fun K hK=>?_) (fun j hj=>h0 _ hj)
 rw [uK,← hI] at hK
 refine Hh (hv y (by rw [e]; simp)) (J8 (fun h=>hK _ ?_) (fun h=>hK _ ?_))
 ·rw [if_pos (Np h)]
 ·rw [if_neg (Nq h)]

theorem H83 (h:yO F F s bx T g0 bv) (hF:100≤F) (hr:aH s bx=some true):bI F s bx=some ((QB bv (g0.length+1) g0 [] 0).1,(QB bv (g0.length+1) g0 [] 0).2,0):=by
 refine gA ?_
 unfold bI
 have hg:=h.groups
 have a2:=hg.len
 have h8:=h.num
 generalize hR:QB bv (g0.length+1) g0 [] 0=R
 refine Hh hr (J8 (fun h=>by cases h) (fun _=>Hh hg.prog ?_))
 refine wp_loop (fun st:List (List G5)×Int×List G1=>∃ n,Left bx g0 bv R n st.2.2 st.1 st.2.1) (fun st=>st.2.2.length)
  ⟨g0.length+1,Nat.lt_succ_self _,fun c h=>h,by simp only [List.length_nil]; omega,⟨Int.le_refl _,by show (0:Int)+288*(g0.length:Int)≤4000; omega⟩,hR⟩ (by simp only; omega) (fun st nx hI h5=>?_)
 obtain⟨fams,sum,ck⟩:=st
 obtain⟨n,hI⟩:=hI
 simp only at hI ⊢
 have h9:=hI.len
 have h6:∀ c∈ck,Zi c∧1≤wtC c:=fun c hc=>⟨(qS h (hI.sub c hc)).1,(qS h (hI.sub c hc)).2.1⟩
 refine Z0 (Nr (by decide)) ?_
 refine xG (fun i s24=>s24=(List.range i).map (bF ck)) rfl (fun i s24 nx2 hi hJ h1=>?_) (fun s24 hJ=>?_)
 ·have a0:i < 20:=hi
  refine Hh (Hcd (call:=(i:Int)) h6 (by omega) (by omega)) (Z0 (mH (by rw [hJ,P9,List.length_range,P6]; omega) (by omega)) (h1 _ ?_))
  rw [List.range_succ,List.map_append,← hJ]
  rfl
 have h2:s24=uG ck:=hJ
 subst h2
 have h7:R1 (uG ck) (fun z0=>dV F z0 s)=some (Zk bv ck):=Gcb fun x hx=>by
  obtain⟨k,_,rfl⟩:=Pb.1 hx
  obtain⟨_,f2,f3⟩:=GF h hI.sub (by omega) k
  have hb:=h.bound hF (l:=(bF ck k).map (·.G5)) (by rw [P9]; exact f2)
  rw [J25 h f3] at hb
  unfold dV
  rw [hb,yL]
 refine Hh h7 ?_
 rcases hI.step h hF with ⟨h0,e⟩ | ⟨h0,b1,b2,b3,b4,hN⟩
 ·refine J8 (fun _=>H4 ?_) (fun hh=>absurd h0 (Nq hh))
  rw [e]
 refine J8 (fun hh=>absurd (Np hh) h0) (fun _=>?_)
 refine Rv (fun pre s63=>s63=pre.map (·.G5)) rfl (fun pre y post s63 nx3 e hJ h3=>?_) (fun s63 hJ=>?_)
 ·have hp:pre.length < 12:=by rw [e] at b3; simp only [P5,P1] at b3; omega
  refine Z0 (mH (by rw [hJ,P9,P6]; omega) (by omega)) (h3 _ (by rw [hJ,List.map_append]; rfl))
 subst hJ
 have a1:=hI.sum
 refine Z0 (mH (by rw [P6]; omega) (by omega)) (Ji ⟨by omega,by omega⟩ ?_)
 have h4:Qm F ck (fun z0=>dU z0 ((Zk bv ck).1.map (·.G5)))=some (YM ((Zk bv ck).1.map (·.G5)) ck):=
  G5c (fun c _=>by unfold dU; rw [H92]; rfl) (by omega) (by omega)
 exact Hh h4 (h5 _ ⟨n - 1,hN⟩ b4)

theorem Hb3 (h:yO F F s bx T g0 bv) (hF:100≤F) (hr:Yf F s bx=some true):Y1 F s bx=some ((QB bv (g0.length+1) g0 [] 0).1,(QB bv (g0.length+1) g0 [] 0).2,0):=by
 refine gA ?_
 unfold Y1
 have hg:=h.groups
 have b0:=hg.len
 have a6:=h.num
 generalize hR:QB bv (g0.length+1) g0 [] 0=R
 refine Hh hr (J8 (fun h=>by cases h) (fun _=>Hh hg.ref ?_))
 refine wp_loop (fun st:List (List G5)×Int×List G8=>∃ n ck,st.2.2=ck.map toR∧Left bx g0 bv R n ck st.1 st.2.1) (fun st=>st.2.2.length)
  ⟨g0.length+1,g0,rfl,Nat.lt_succ_self _,fun c h=>h,by simp only [List.length_nil]; omega,⟨Int.le_refl _,by show (0:Int)+288*(g0.length:Int)≤4000; omega⟩,hR⟩ (by simp only [P9]; omega) (fun st nx hI h9=>?_)
 obtain⟨fams,sum,cr⟩:=st
 obtain⟨n,ck,e,hI⟩:=hI
 simp only at e hI ⊢
 subst e
 have a7:=hI.len
 have a0:∀ c∈ck,Zi c∧1≤wtC c:=fun c hc=>⟨(qS h (hI.sub c hc)).1,(qS h (hI.sub c hc)).2.1⟩
 refine Z0 (Nr (by decide)) ?_
 refine xG (fun i st=>st=grp (cW bv ((List.range i).map (bF ck)) ([],0))) rfl (fun i st nx2 hi hJ h5=>?_) (fun st hJ=>?_)
 ·have a8:i < 20:=hi
  have a1:grp (cW bv ((List.range (i+1)).map (bF ck)) ([],0))=if st.2 < bv ((bF ck i).map (·.G5)) then ((bF ck i).map (·.G5),bv ((bF ck i).map (·.G5))) else st:=by
   rw [List.range_succ,List.map_append,List.map_singleton,uK,hJ]
   show grp (if (cW bv ((List.range i).map (bF ck)) ([],0)).2 < _ then _ else _)=if (cW bv ((List.range i).map (bF ck)) ([],0)).2 < _ then _ else _
   split <;> rfl
  refine lW (fun j=>j=grp (cW bv ((List.range (i+1)).map (bF ck)) ([],0))) (fun K hK=>?_) (fun j hj=>h5 _ hj)
  rw [a1] at hK
  refine Rv (fun pre on=>on=pre.filter (fun c=>decide (c.G5.Load≤(i:Int))&&decide ((i:Int) < c.G5.Discharge))) rfl (fun pre y post on nx3 e hL h2=>?_) (fun on hL=>?_)
  ·have hp:pre.length < 12:=by
    have:=congrArg List.length e
    simp only [P9,P5,P1] at this
    omega
   have hq:on.length≤pre.length:=by rw [hL]; exact Nk ..
   have hs:(pre++[y]).filter (fun c:G8=>decide (c.G5.Load≤(i:Int))&&decide ((i:Int) < c.G5.Discharge))=if decide (y.G5.Load≤(i:Int))&&decide ((i:Int) < y.G5.Discharge) then on++[y] else on:=by rw [hL]; exact uF
   refine lW (fun j=>j=(pre++[y]).filter (fun c:G8=>decide (c.G5.Load≤(i:Int))&&decide ((i:Int) < c.G5.Discharge))) (fun K2 h1=>J8 (fun hh=>?_) (fun hh=>h1 _ ?_)) (fun j hj=>h2 _ hj)
   ·exact Z0 (mH (by rw [P6]; omega) (by omega)) (h1 _ (by rw [hs,if_pos hh]))
   ·rw [hs,hh]; rfl
  rw [J22] at hL
  subst hL
  have a2:∀ c∈onL ck (i:Int),Zi c∧1≤wtC c:=fun c hc=>a0 c (Pe.1 hc).1
  have h6:(onL ck (i:Int)).length≤12:=Nat.le_trans (Nk ..) (by omega)
  have h3:=H27 a2 h6 12 F 0 (G5.mk 0 0) false (by omega) (by omega)
  have h7:(fun c:G1=>!(false&&(decide (c.G5.Load≤(G5.mk 0 0).Load)||decide (c.G5.Discharge≤(G5.mk 0 0).Discharge))))=allT:=rfl
  rw [h7,List.drop_zero] at h3
  refine Hh h3 ?_
  obtain⟨f1,f2,f3⟩:=GF h hI.sub (by omega) i
  have a3:=h.ref hF (l:=(bF ck i).map (·.G5)) (by rw [P9]; exact f2)
  rw [show (grp (chn (onL ck (i:Int)) allT)).1=(bF ck i).map (·.G5) from rfl]
  refine Jp (wp_mono a3 (fun r a4=>?_))
  rcases a4 with ⟨hn,_⟩ | ⟨_,rfl⟩
  ·exact(hn f1).elim
  refine J8 (fun hh=>hK _ ?_) (fun hh=>hK _ ?_)
  ·exact(if_pos (Np hh)).symm
  ·exact(if_neg (Nq hh)).symm
 have a5:st=grp (Zk bv ck):=hJ
 subst a5
 rcases hI.step h hF with ⟨h0,e⟩ | ⟨h0,b1,b2,b3,b4,hN⟩
 ·refine J8 (fun _=>H4 ?_) (fun hh=>absurd h0 (Nq hh))
  rw [e]
 refine J8 (fun hh=>absurd (Np hh) h0) (fun _=>?_)
 have a9:=hI.sum
 refine Z0 (mH (by rw [P6]; omega) (by omega)) (Ji ⟨by show _≤sum+(Zk bv ck).2; omega,by show sum+(Zk bv ck).2≤_; omega⟩ ?_)
 refine Rv (fun pre s62=>s62=pre.filter (fun c=>!(((Zk bv ck).1.map (·.G5)).any (fun y=>decide (c.G5=y))))) rfl (fun pre y post s62 nx3 e hL h2=>?_) (fun s62 hL=>?_)
 ·have hp:pre.length < 12:=by
   have:=congrArg List.length e
   simp only [P9,P5,P1] at this
   omega
  have hq:s62.length≤pre.length:=by rw [hL]; exact Nk ..
  have hs:(pre++[y]).filter (fun c:G8=>!(((Zk bv ck).1.map (·.G5)).any (fun z=>decide (c.G5=z))))=if !(((Zk bv ck).1.map (·.G5)).any (fun z=>decide (y.G5=z))) then s62++[y] else s62:=by rw [hL]; exact uF
  refine lW (fun j=>j=(pre++[y]).filter (fun c:G8=>!(((Zk bv ck).1.map (·.G5)).any (fun z=>decide (c.G5=z))))) (fun K2 h1=>?_) (fun j hj=>h2 _ hj)
  rw [hs] at h1
  refine Rv (fun pre2 b=>b=pre2.any (fun z=>decide (y.G5=z))) rfl (fun pre2 z post2 b nx4 e2 hM h8=>h8 _ ?_) (fun b hM=>?_)
  ·rw [List.any_append,← hM,List.any_cons,List.any_nil,Bool.or_false]
   congr 1
   exact decide_eq_decide.2 eq_comm
  ·have hM:b=((Zk bv ck).1.map (·.G5)).any (fun z=>decide (y.G5=z)):=hM
   rw [← hM] at h1
   refine J8 (fun hh=>?_) (fun hh=>h1 _ ?_)
   ·exact Z0 (mH (by rw [P6]; omega) (by omega)) (h1 _ (by rw [if_pos hh]))
   ·rw [hh]; rfl
 have h4:s62=(YM ((Zk bv ck).1.map (·.G5)) ck).map toR:=by
  rw [hL,List.filter_map]
  rfl
 exact h9 _ ⟨n - 1,_,h4,hN⟩ (by simp only [h4,P9]; exact b4)
end
end Go.Proofs.YthkihfoleenlmaaGreat
