/-
 Yards are told apart by their bytes and by where their boxes Check of program and reference. The search for the fewest moves:
-/
import Derived.Test.YtokjlondbjdlfaaGreatMarG
set_option maxRecDepth 100000
set_option linter.unusedVariables false
namespace Go.Proofs.YtokjlondbjdlfaaGreat
open Go.RowKit

theorem Qcd:∀ (n:Nat) (l:List Nat),l.Nodup→(∀ x∈l,x < n)→l.length≤n
 | 0,l,_,h=>by
  cases l with
  | nil=>simp
  | cons x r=>exact absurd (h x (by simp)) (by omega)
 | n+1,l,hn,h=>by
  have h1:=Qcd n (l.filter (fun x=>decide (x≠n))) (hn.filter _) (fun x hx=>by
   have:=Ks.1 hx
   have h2:=h x this.1
   have h3:=Es this.2
   omega)
  have h2:l.count n≤1:=List.nodup_iff_count.1 hn n
  have h3:=List.length_eq_countP_add_countP (fun x=>decide (x≠n)) (l:=l)
  rw [← List.countP_eq_length_filter] at h1
  have h4:l.countP (fun a=>decide (¬ decide (a≠n)=true))=l.count n:=by
   unfold List.count
   congr 1
   funext a
   by_cases e:a=n <;> simp [e]
  rw [h4] at h3
  omega

theorem J7c {n:Nat} {a b:List (List Int)} (ha:a.length=n) (hb:b.length=n) (h:∀ i k,i < n→cellAt a i k=cellAt b i k):a=b:=by
 refine List.ext_getElem (by omega) fun i h1 h2=>List.ext_getElem? fun k=>?_
 have:=h i k (by omega)
 rw [G59 (Ey h1),G59 (Ey h2)] at this
 exact this
theorem SmY.Gd7 {boxes:List Int} {n:Nat} {H:Int} {ss:List (List Int)} (h:SmY boxes n H ss) {i k:Nat} {b:Int} (hc:cellAt ss i k=some b):i < n∧k < 6∧b∈boxes:=by
 unfold cellAt at hc
 obtain⟨s,hs,hk⟩:=Option.bind_eq_some_iff.1 hc
 have hi:=(Ex hs).1
 rw [h.len] at hi
 obtain⟨s',h0,h6,_,hb⟩:=h.at_ hi
 rw [hs] at h0; cases h0
 have:=(Ex hk).1
 exact⟨hi,by omega,hb b (K0 hk)⟩
theorem code_inj {boxes:List Int} {o p:Option Int} (ho:∀ b,o=some b→b∈boxes) (hp:∀ b,p=some b→b∈boxes) (h:codeOf boxes o=codeOf boxes p):o=p:=by
 cases o with
 | none=>
  cases p with
  | none=>rfl
  | some b=>simp only [codeOf] at h; omega
 | some a=>
  cases p with
  | none=>simp only [codeOf] at h; omega
  | some b=>
   simp only [codeOf] at h
   have e:boxes.idxOf a=boxes.idxOf b:=by omega
   have ha:=ho a rfl
   have hb:=hp b rfl
   have h1:=List.getElem_idxOf (List.idxOf_lt_length_of_mem ha)
   have h2:=List.getElem_idxOf (List.idxOf_lt_length_of_mem hb)
   have:boxes[boxes.idxOf a]? = boxes[boxes.idxOf b]? := by rw [e]
   rw [Ey (List.idxOf_lt_length_of_mem ha),Ey (List.idxOf_lt_length_of_mem hb),h1,h2] at this
   exact this
theorem R31 {boxes:List Int} {n:Nat} {H:Int} {a b:List (List Int)} (ha:SmY boxes n H a) (hb:SmY boxes n H b) (h:G81 boxes a=G81 boxes b):a=b:=by
 refine J7c ha.len hb.len fun i k hi=>?_
 have h0:=ha.few
 by_cases hk:k < 6
 ·refine code_inj (fun x hx=>(ha.Gd7 hx).2.2) (fun x hx=>(hb.Gd7 hx).2.2) ?_
  have:=congrArg (fun z:Gp=>z.g (i*6+k*1)) h
  have h2:(G81 boxes a).g (i*6+k*1)=(G81 boxes b).g (i*6+k*1):=this
  rw [J79 boxes a (by omega) hk,J79 boxes b (by omega) hk] at h2
  exact h2
 ·have no:∀ {ss},SmY boxes n H ss→cellAt ss i k=none:=fun {ss} hs=>by
   cases hc:cellAt ss i k with
   | none=>rfl
   | some x=>exact absurd (hs.Gd7 hc).2.1 hk
  rw [no ha,no hb]

/-! ### Where the boxes stand -/
theorem H18 {b:Int}:∀ {ss:List (List Int)} {o i k:Nat} {s:List Int},ss.flatten.Nodup→ss[i]? = some s→s[k]? = some b→G49 b ss o=(((o+i:Nat):Int),(k:Int),true)
 | [],o,i,k,s,_,h,_=>by simp at h
 | x::ss,o,0,k,s,hn,h,hk=>by
  simp at h; subst h
  have hm:b∈x:=K0 hk
  rw [G49,if_pos hm]
  have hx:x.Nodup:=(List.nodup_append.1 (by rw [List.flatten_cons] at hn; exact hn)).1
  have hl:=(Ex hk).1
  have h1:x[k]=b:=by rw [Ey hl] at hk; exact Ez hk
  have:x.idxOf b=k:=by
   have hi:=List.idxOf_lt_length_of_mem hm
   exact(List.getElem?_inj hi hx).1 (by rw [Ey hi,List.getElem_idxOf hi,hk])
  rw [this]; simp
 | x::ss,o,i+1,k,s,hn,h,hk=>by
  rw [List.flatten_cons] at hn
  have h0:=List.nodup_append.1 hn
  have h:ss[i]? = some s:=by simpa using h
  have hm:b∈ss.flatten:=List.mem_flatten.2 ⟨s,K0 h,K0 hk⟩
  have hx:b ∉ x:=fun hb=>h0.2.2 b hb b hm rfl
  rw [G49,if_neg hx,H18 h0.2.1 h hk]
  simp only [Prod.mk.injEq,and_true]
  omega
theorem J20 {b:Int} {ss:List (List Int)} (h:b∈ss.flatten):∃ i k,cellAt ss i k=some b:=by
 obtain⟨s,hs,hb⟩:=List.mem_flatten.1 h
 obtain⟨i,hi⟩:=List.mem_iff_getElem?.1 hs
 obtain⟨k,hk⟩:=List.mem_iff_getElem?.1 hb
 exact⟨i,k,by rw [G59 hi]; exact hk⟩
def J56 (ss:List (List Int)) (b:Int):Nat:=(G49 b ss 0).1.toNat*6+(G49 b ss 0).2.1.toNat
theorem Hca {boxes:List Int} {n:Nat} {H:Int} {ss:List (List Int)} (h:SmY boxes n H ss) {i k:Nat} {b:Int} (hc:cellAt ss i k=some b):J56 ss b=i*6+k:=by
 unfold cellAt at hc
 obtain⟨s,hs,hk⟩:=Option.bind_eq_some_iff.1 hc
 unfold J56
 rw [H18 h.right.nodup hs hk]
 dsimp only
 omega
theorem J93 {boxes:List Int} {n:Nat} {H:Int} {ss:List (List Int)} (h:SmY boxes n H ss) {b:Int} (hb:b∈boxes):J56 ss b < 24:=by
 obtain⟨i,k,hc⟩:=J20 ((h.in_ b).2 hb)
 have:=h.Gd7 hc
 have:=h.few
 rw [Hca h hc]; omega
def H3e (ss:List (List Int)):List Int→Nat
 | []=>0
 | b::r=>J56 ss b+24*H3e ss r
theorem Jdc {boxes:List Int} {n:Nat} {H:Int} {ss:List (List Int)} (h:SmY boxes n H ss):∀ l:List Int,(∀ b∈l,b∈boxes)→H3e ss l < 24 ^ l.length
 | [],_=>by simp [H3e]
 | b::r,hl=>by
  have h1:=J93 h (hl b (List.mem_cons_self ..))
  have h2:=Jdc h r (fun x hx=>hl x (List.mem_cons_of_mem _ hx))
  rw [H3e,Ke,Nat.pow_succ]
  omega
theorem J7b {boxes:List Int} {n:Nat} {H:Int} {a c:List (List Int)} (ha:SmY boxes n H a) (hc:SmY boxes n H c):∀ l:List Int,(∀ b∈l,b∈boxes)→H3e a l=H3e c l→∀ b∈l,J56 a b=J56 c b
 | [],_,_,b,hb=>by simp at hb
 | x::r,hl,h,b,hb=>by
  rw [H3e,H3e] at h
  have h1:=J93 ha (hl x (List.mem_cons_self ..))
  have h2:=J93 hc (hl x (List.mem_cons_self ..))
  have e1:J56 a x=J56 c x:=by omega
  rcases Kr.1 hb with rfl | hb
  ·exact e1
  ·exact J7b ha hc r (fun x hx=>hl x (List.mem_cons_of_mem _ hx)) (by omega) b hb
theorem Qbe {boxes:List Int} {n:Nat} {H:Int} {a c:List (List Int)} (ha:SmY boxes n H a) (hc:SmY boxes n H c) (h:H3e a boxes=H3e c boxes):a=c:=by
 have hp:=J7b ha hc boxes (fun _ h=>h) h
 have one:∀ {a c:List (List Int)},SmY boxes n H a→SmY boxes n H c→(∀ b∈boxes,J56 a b=J56 c b)→∀ i k b,cellAt a i k=some b→cellAt c i k=some b:=fun {a c} ha hc hp i k b h3=>by
  have hl:=ha.Gd7 h3
  obtain⟨i',k',h0⟩:=J20 ((hc.in_ b).2 hl.2.2)
  have h4:=hc.Gd7 h0
  have e:=hp b hl.2.2
  rw [Hca ha h3,Hca hc h0] at e
  have e1:i=i':=by omega
  have e2:k=k':=by omega
  rw [e1,e2]; exact h0
 refine J7c ha.len hc.len fun i k _=>?_
 cases h1:cellAt a i k with
 | some b=>exact(one ha hc hp i k b h1).symm
 | none=>
  cases h2:cellAt c i k with
  | none=>rfl
  | some b=>rw [one hc ha (fun b hb=>(hp b hb).symm) i k b h2] at h1; cases h1

/-! ### What is met -/
structure Met (boxes:List Int) (n:Nat) (H:Int) (all:List Gb):Prop where
 ok:∀ z∈all,SmY boxes n H z.y.Stacks∧z.y.Height=H
 nodup:(all.map (·.y.Stacks)).Nodup
 first:∃ z,all[0]? = some z∧z.from_ = -1
 from_:∀ (i:Nat) z,all[i]? = some z→0 < i→∃ j:Nat,z.from_=(j:Int)∧j < i
theorem Met.len {boxes:List Int} {n:Nat} {H:Int} {all:List Gb} (h:Met boxes n H all) (hb:boxes.length≤5):all.length≤7962624:=by
 have hn:(all.map fun z=>H3e z.y.Stacks boxes).Nodup:=by
  have:=h.nodup
  unfold List.Nodup at this ⊢
  rw [List.pairwise_map] at this ⊢
  exact this.imp_of_mem fun {a c} ha hc h0 e=>h0 (Qbe (h.ok a ha).1 (h.ok c hc).1 e)
 have:=Qcd 7962624 _ hn (fun x hx=>by
  obtain⟨z,hz,rfl⟩:=Kp.1 hx
  have h1:=Jdc (h.ok z hz).1 boxes (fun _ h=>h)
  have h2:24 ^ boxes.length≤24 ^ 5:=Nat.pow_le_pow_right (by decide) hb
  have h3:(24:Nat) ^ 5=7962624:=by decide
  omega)
 rwa [Kn] at this
theorem Met.addN {boxes:List Int} {n:Nat} {H:Int} {all:List Gb} (h:Met boxes n H all) {at_:Nat} (h3:at_ < all.length) {x:G2×List (List Int)} (hx:SmY boxes n H x.2):Met boxes n H (addN H (at_:Int) all x):=by
 unfold Go.Proofs.YtokjlondbjdlfaaGreat.addN
 split
 ·exact h
 ·rename_i h0
  refine⟨fun z hz=>?_,?_,?_,fun i z hz hi=>?_⟩
  ·rcases Ko.1 hz with hz | hz
   ·exact h.ok z hz
   ·rw [Kq] at hz; subst hz; exact⟨hx,rfl⟩
  ·rw [List.map_append]
   refine List.nodup_append.2 ⟨h.nodup,by simp,fun a ha c hc=>?_⟩
   simp only [List.map_cons,List.map_nil,Kq] at hc
   subst hc
   obtain⟨z,hz,rfl⟩:=Kp.1 ha
   exact fun e=>h0 ⟨z,hz,e⟩
  ·obtain⟨z,h1,h2⟩:=h.first
   exact⟨z,by rw [Kd (by omega)]; exact h1,h2⟩
  ·rcases Ep i all.length with hl | hl
   ·rw [Kd hl] at hz
    exact h.from_ i z hz hi
   ·rw [Kc hl] at hz
    have e:i - all.length=0:=by
     have:=(Ex hz).1
     simp at this; omega
    rw [e] at hz
    simp at hz
    subst hz
    exact⟨at_,rfl,by omega⟩
theorem Met.G3e {boxes:List Int} {n:Nat} {H:Int} {at_:Nat}:∀ (l:List (G2×List (List Int))) {all:List Gb},Met boxes n H all→at_ < all.length→(∀ x∈l,SmY boxes n H x.2)→Met boxes n H (G3e H (at_:Int) all l)
 | [],all,h,_,_=>h
 | x::l,all,h,h0,hl=>by
  have h1:=h.addN h0 (hl x (List.mem_cons_self ..))
  refine Met.G3e l h1 ?_ (fun y hy=>hl y (List.mem_cons_of_mem _ hy))
  unfold Go.Proofs.YtokjlondbjdlfaaGreat.addN
  split
  ·exact h0
  ·rw [Ki]; omega
theorem H36 {boxes:List Int} {n:Nat} {H:Int} {ss:List (List Int)} (h:SmY boxes n H ss):∀ x∈G64 ss H.toNat,SmY boxes n H x.2:=fun x hx=>by
 obtain⟨a,b,ha,hb,e1,h0,e2⟩:=J70 hx
 rw [e2]
 rcases G63 ss H.toNat x.1 with h' | ⟨f,t,p,q,y,c⟩
 ·exact(h' h0).elim
 ·have hp:=c.perm
  exact⟨G72 h.right h0,by rw [c.eq]; simp [h.len],h.few,fun v=>by rw [c.eq]; exact(hp.mem_iff).trans (h.in_ v)⟩
theorem Q9c {ss:List (List Int)} {h:Nat} (hn:ss.length≤4):(G64 ss h).length≤16:=by
 have key:∀ m,(H1a ss h ss.length m).length≤4*m:=by
  intro m
  induction m with
  | zero=>simp [H1a]
  | succ m ih=>rw [H5f,Ki]; have:=Qc7 ss h m ss.length; omega
 have:=key ss.length
 unfold G64
 omega

theorem Zm {α β:Type} {Q:β→Prop} {c:Bool} {m d:Option α} {x:α} {k:α→Option β} (hc:c=true) (e:m=some x) (h:Wp (k x) Q):Wp (bnd (bif c then m else d) k) Q:=by
 subst hc
 exact Gg e h
theorem R55 {α β:Type} {Q:β→Prop} {c:Bool} {m:Option α} {x:α} {k:α→Option β} (hc:c=false) (h:Wp (k x) Q):Wp (bnd (bif c then m else some x) k) Q:=by
 subst hc
 exact h
theorem G48 (l:List G2):Jv l l=some true:=by
 unfold Jv
 refine Q5c (fun i y nx hy=>?_)
 rw [Gad hy,Ev rfl]; rfl
theorem He8 {ss:List (List Int)} {H:Int} {l:List G2} (h:(G1b ss H l).2.2.2=0):Q5 (G1b ss H l).1 (G1b ss H l).2.1:=by
 by_cases hr:Q5 ss H
 ·by_cases hl:10000 < l.length
  ·rw [H85 hr hl] at h; exact absurd h (by decide)
  ·rw [Hcb hr hl] at h ⊢
   by_cases h0:(G00 H.toNat ss 0 l).2.2=0
   ·rw [if_pos h0]; exact He7 l 0 hr h0
   ·rw [if_neg h0] at h; exact absurd h h0
 ·rw [J1c hr] at h; exact absurd h (by decide)
def Qea (ss:List (List Int)) (H:Int) (order:List Int) (l:List G2):Bool×Int:=
 if Z5 ss H order then (decide ((G1b ss H l).2.2.2=0)&&decide ((Qj order (G1b ss H l).1).length=0),0) else (false,2)
theorem R04 (ss:List (List Int)) (H:Int) (order:List Int) (l:List G2):Ye ⟨ss,H⟩ order l=some (Qea ss H order l):=by
 unfold Ye Qea
 rw [Ga0,G04]
 by_cases h:Z5 ss H order
 ·rw [if_pos h,if_pos h,R36]
  show (bnd (bif decide ((G1b ss H l).2.2.2=0) then Ru ⟨(G1b ss H l).1,(G1b ss H l).2.1⟩ order else some default) fun r10=>some ((decide ((G1b ss H l).2.2.2=0))&&(decide ((r10.length:Int)=0)),(0:Int)))=_
  by_cases h0:(G1b ss H l).2.2.2=0
  ·rw [Ev h0,cond_true,J96 (He8 h0).all,G04,Gb3]
   congr 3
   exact decide_eq_decide.2 (by omega)
  ·rw [Ew h0]; rfl
 ·rw [if_neg h,if_neg h]; rfl
theorem Qae (F:Nat) (ss:List (List Int)) (H:Int) (order:List Int) (l:List G7):Y8 F ⟨ss,H⟩ order l=some (Qea ss H order (l.map mv)):=by
 unfold Y8 Qea
 rw [G26,G04]
 by_cases h:Z5 ss H order
 ·rw [if_pos h,Ev h,Qf4]
  generalize l.map mv=l'
  show (bnd (bif decide ((G1b ss H l').2.2.2=0) then J1 F ⟨(G1b ss H l').1,(G1b ss H l').2.1⟩ order else some default) fun r9=>some ((decide ((G1b ss H l').2.2.2=0))&&(decide ((r9.length:Int)=0)),(0:Int)))=_
  by_cases h0:(G1b ss H l').2.2.2=0
  ·rw [Ev h0,cond_true,H3a F (He8 h0).all,G04]
   congr 3
   exact decide_eq_decide.2 (by omega)
  ·rw [Ew h0]; rfl
 ·rw [if_neg h,Ew h]; rfl
def rmv (y:G2):G7:=⟨y.From,y.To⟩
theorem R78 (l:List G2):(l.map rmv).map mv=l:=by
 rw [List.map_map]
 exact(List.map_congr_left (fun _ _=>rfl)).trans (List.map_id l)
theorem Qa9 (F:Nat) {y:Gh} {order:List Int} {l:List G2} (h1:∀ s∈y.Stacks,s.length≤10) (h2:y.Stacks.length≤32) (h3:order.length≤60) (h4:l.length≤60):Y3 F y order l=some true:=by
 refine Y1 ?_
 unfold Y3
 have hs:∀ s∈y.Stacks,s.length≤1048576:=fun s hs=>by have:=h1 s hs; omega
 refine Gg (Q46 (by omega) hs) (Gg (Gdc (by omega)) (Jn (Zt (by rw [List.length_nil]; omega) (by decide)) ?_))
 rw [List.nil_append]
 show Wp (bnd (Ye ⟨(y.Stacks.map H6e).map Prod.fst,y.Height⟩ order l) _) _
 rw [Hcc]
 refine Gg (R04 _ _ _ _) ?_
 refine Qd (fun pre s=>s=pre.map rmv) rfl (fun pre x post s nx e hI h0=>?_) (fun s hI=>?_)
 ·subst hI
  have hp:pre.length < 60:=by
   have:=congrArg List.length e
   simp only [Ki,Ke] at this; omega
  refine Jn (Zt (by rw [Kn,Kj]; omega) (by decide)) (h0 _ ?_)
  rw [List.map_append]; rfl
 ·have hI:s=l.map rmv:=hI
  subst hI
  refine Gg (Qae F _ _ _ _) ?_
  rw [R78]
  generalize Qea y.Stacks y.Height order l=r
  have hb:(r.1==r.1&&decide (r.2=r.2))=true:=by simp
  rw [hb]
  exact Zm rfl (G48 l) (Zm rfl (Ja2 (by omega) hs) (Zm rfl (Gde (by omega)) (Hy rfl)))

/-! ### A list the other way round -/
theorem rev_at {α:Type} (l:List α) {q:Nat} (h:q < l.length):l.reverse[q]? = l[l.length - 1 - q]? := List.getElem?_reverse h
theorem Q44 {F:Nat} {s:List G2} (hF:s.length < F) (hl:s.length≤10000000):Qn F s=some s.reverse:=by
 refine Y1 ?_
 unfold Qn
 refine Qh (by omega) ?_
 refine wp_loop (fun z=>∃ k:Nat,z.1=(k:Int)∧z.2.1=(s.length:Int) - 1 - k∧2*k≤s.length∧z.2.2.length=s.length∧∀ q,q < s.length→z.2.2[q]? = if q < k∨s.length≤q+k then s[s.length - 1 - q]? else s[q]?) (fun z=>s.length - z.1.toNat) ⟨0,rfl,by simp,by omega,rfl,fun q hq=>by rw [if_neg (by omega)]⟩ (by dsimp only; omega) (fun z nx hz h4=>?_)
 obtain⟨i,j,cur⟩:=z
 obtain⟨k,hi,hj,hk,h0,hc⟩:=hz
 have hi:i=(k:Int):=hi
 have hj:j=(s.length:Int) - 1 - k:=hj
 subst hi
 refine J0 (fun h=>?_) (fun h=>Hy ?_)
 ·have h:(k:Int) < j:=Es h
  have h7:k+1 < s.length - k:=by omega
  obtain⟨m,hm⟩:∃ m:Nat,m=s.length - 1 - k:=⟨_,rfl⟩
  have h5:j=(m:Int):=by omega
  subst h5
  have h1:m < cur.length:=by
   have h0:cur.length=s.length:=h0
   omega
  have h2:k < cur.length:=by
   have h0:cur.length=s.length:=h0
   omega
  have h6:k≠m:=by omega
  have gm:cur[m]? = s[m]? := by rw [hc m (by omega),if_neg (by omega)]
  have gk:cur[k]? = s[k]? := by rw [hc k (by omega),if_neg (by omega)]
  have vm:cur[m]? = some cur[m]:=Ey h1
  have vk:cur[k]? = some cur[k]:=Ey h2
  have tk:((k:Int)).toNat=k:=by omega
  have tm:((m:Int)).toNat=m:=by omega
  refine Qf rfl vm (Qf rfl vk (Qf rfl vk ?_))
  dsimp only
  rw [tk]
  refine Qf (m:=m) (x:=cur[m]) rfl (by rw [List.getElem?_set_ne h6]; exact vm) (Qh (by omega) (Qh (by omega) (h4 _ ⟨k+1,by dsimp only; omega,by dsimp only; omega,by omega,?_,fun q hq=>?_⟩ (by dsimp only; omega))))
  ·dsimp only
   rw [List.length_set,List.length_set]; exact h0
  ·dsimp only
   rw [tm]
   by_cases e1:q=m
   ·subst e1
    rw [List.getElem?_set_self (by rw [List.length_set]; exact h1),if_pos (by omega),← vk,gk]
    congr 1; omega
   ·rw [List.getElem?_set_ne (Ne.symm e1)]
    by_cases e2:q=k
    ·subst e2
     rw [List.getElem?_set_self h2,if_pos (by omega),← vm,gm]
     congr 1 <;> omega
    ·rw [List.getElem?_set_ne (Ne.symm e2),hc q hq]
     by_cases h3:q < k∨s.length≤q+k
     ·rw [if_pos h3,if_pos (by omega)]
     ·rw [if_neg h3,if_neg (by omega)]
 ·have h:¬ (k:Int) < j:=Eu h
  have h0:cur.length=s.length:=h0
  refine List.ext_getElem? fun q=>?_
  rcases Ep q s.length with hq | hq
  ·rw [hc q hq,rev_at s hq]
   by_cases h3:q < k∨s.length≤q+k
   ·rw [if_pos h3]
   ·rw [if_neg h3]; congr 1; omega
  ·rw [List.getElem?_eq_none (by omega),List.getElem?_eq_none (by rw [List.length_reverse]; exact hq)]

/-! ### The way back to the first yard -/
inductive J5e (all:List Gb):Nat→List G7→Prop
 | stop:J5e all 0 []
 | go {i j:Nat} {z:Gb} {l:List G7} (hz:all[i]? = some z) (hi:0 < i) (hf:z.from_=(j:Int)) (hj:j < i) (h:J5e all j l):J5e all i (z.by_::l)
theorem Q76 {boxes:List Int} {n:Nat} {H:Int} {all:List Gb} (hA:Met boxes n H all):∀ (k i:Nat),i≤k→i < all.length→∃ l,J5e all i l∧l.length≤i
 | k,0,_,_=>⟨[],.stop,by simp⟩
 | 0,i+1,h,_=>by omega
 | k+1,i+1,hk,hi=>by
  obtain⟨j,hf,hj⟩:=hA.from_ (i+1) _ (Ey hi) (by omega)
  obtain⟨l,h1,h2⟩:=Q76 hA k j (by omega) (by omega)
  exact⟨_,.go (Ey hi) (by omega) hf hj h1,by rw [Ke]; omega⟩
def cv (boxes:List Int) (z:Gb):Gq:=⟨G81 boxes z.y.Stacks,z.from_,mv z.by_⟩
theorem R59 {boxes:List Int} {n:Nat} {H:Int} {all:List Gb} (hA:Met boxes n H all) {G:Nat} (hG:8000000 < G):∀ (f i:Nat) {l:List G7} {out:List G2},J5e all i l→i < f→i < all.length→out.length+l.length≤8000000 →
  loop (fun nx156 (s156:Int×(List G2))=>Qx (all.map (cv boxes)) s156.1 fun y159=>bif decide (0≤y159.from_) then (Qx (all.map (cv boxes)) s156.1 fun y162=>need (decide ((s156.2.length+[y162.by_].length)*16≤140737488355328∧s156.2.length+[y162.by_].length≤maxLen)) <| Qx (all.map (cv boxes)) s156.1 fun y165=>nx156 (y165.from_,(s156.2++[y162.by_]))) else (bnd (Qn G s156.2) fun r168=>some (r168,(0:Int)))) f ((i:Int),out)=some ((out++l.map mv).reverse,0)
 | 0,i,l,out,h,hf,_,_=>by omega
 | f+1,_,_,out,.stop,hf,hi,hl=>by
  obtain⟨z,hz,h1⟩:=hA.first
  refine Y1 ?_
  rw [loop]
  refine Qf (m:=0) (x:=cv boxes z) rfl (by rw [Kf,hz]; rfl) ?_
  have hd:decide (0≤(cv boxes z).from_)=false:=Ew (by show ¬ 0≤z.from_; omega)
  rw [hd,cond_false]
  simp only [List.length_nil,Nat.add_zero] at hl
  refine Gg (Q44 (by dsimp only; omega) (by dsimp only; omega)) (Hy ?_)
  simp
 | f+1,i,_,out,.go (z:=z) (j:=j) (l:=l) hz h0 h2 hj h,hf,hi,hl=>by
  refine Y1 ?_
  rw [loop]
  have hg:(all.map (cv boxes))[i]? = some (cv boxes z):=by rw [Kf,hz]; rfl
  have hd:decide (0≤(cv boxes z).from_)=true:=Ev (by show 0≤z.from_; omega)
  rw [Ke] at hl
  refine Qf rfl hg ?_
  rw [hd,cond_true]
  refine Qf rfl hg (Jn (Zt (by dsimp only; rw [Kj]; omega) (by decide)) (Qf rfl hg ?_))
  have e:(cv boxes z).from_=(j:Int):=h2
  rw [e]
  refine⟨_,R59 hA hG f j (out:=out++[(cv boxes z).by_]) h (by omega) (by omega) (by rw [Ki,Kj]; omega),?_⟩
  show ((out++[mv z.by_]++l.map mv).reverse,(0:Int))=((out++mv z.by_::l.map mv).reverse,0)
  rw [List.append_assoc]; rfl
theorem R58 {boxes:List Int} {n:Nat} {H:Int} {all:List Gb} (hA:Met boxes n H all):∀ (f i:Nat) {l acc:List G7},J5e all i l→i < f→acc.length+l.length≤8000000 →
  loop (fun nx37 (s37:(List G7)×Int)=>bif decide (0 < s37.2) then (Qx all s37.2 fun y41=>need (decide (([y41.by_].length+s37.1.length)*16≤140737488355328∧[y41.by_].length+s37.1.length≤maxLen)) <| Qx all s37.2 fun y43=>nx37 (([y41.by_]++s37.1),y43.from_)) else (some (s37.1,(0:Int)))) f (acc,(i:Int))=some (l.reverse++acc,0)
 | 0,i,l,acc,h,hf,_=>by omega
 | f+1,_,_,acc,.stop,hf,hl=>by
  rw [loop]; rfl
 | f+1,i,_,acc,.go (z:=z) (j:=j) (l:=l) hz h0 h1 hj h,hf,hl=>by
  refine Y1 ?_
  rw [loop]
  rw [Ke] at hl
  have hd:decide (0 < ((acc,(i:Int)):(List G7)×Int).2)=true:=Ev (by dsimp only; omega)
  rw [hd,cond_true]
  refine Qf rfl hz (Jn (Zt (by rw [Kj]; dsimp only; omega) (by decide)) (Qf rfl hz ?_))
  rw [h1]
  refine⟨_,R58 hA f j (acc:=[z.by_]++acc) h (by omega) (by rw [Ki,Kj]; omega),?_⟩
  simp

/-! ### The map of what is met -/
def R8e (boxes:List Int) (m:Qb Gp Int) (all:List Gb):Prop:=∀ s,Qb.has m s=true ↔ ∃ z∈all,G81 boxes z.y.Stacks=s
theorem Qf0 {κ ν:Type} [DecidableEq κ] (m:Qb κ ν) (a b:κ) (v:ν):Qb.has (Qb.put m a v) b=(decide (a=b)||Qb.has m b):=by
 unfold Qb.has Qb.put
 rw [← G65,← G65,H56]
 by_cases h:a=b <;> simp [h]
theorem R76 {boxes:List Int} {n:Nat} {H:Int} {at_:Nat} {β:Type} {Q:β→Prop} {K:(List Gq)×(Qb Gp Int)→Option β}:∀ (l:List (G2×List (List Int))) {all:List Gb} {met:Qb Gp Int} (i:Nat),Met boxes n H all→at_ < all.length→(∀ x∈l,SmY boxes n H x.2)→R8e boxes met all→all.length+l.length≤9000000 →
  (∀ met',R8e boxes met' (G3e H (at_:Int) all l)→Wp (K ((G3e H (at_:Int) all l).map (cv boxes),met')) Q) →
  Wp (each (fun(y109:G2×Gp) i109 (s109:(List Gq)×(Qb Gp Int)) nx109=>bnd (some (Qb.get s109.2 y109.2 0)) fun v112=>bif (!(Qb.has s109.2 y109.2)) then (need (decide ((s109.1.length+[(Gq.mk y109.2 (at_:Int) y109.1)].length)*48≤140737488355328∧s109.1.length+[(Gq.mk y109.2 (at_:Int) y109.1)].length≤maxLen)) <| nx109 ((s109.1++[(Gq.mk y109.2 (at_:Int) y109.1)]),(Qb.put s109.2 y109.2 (s109.1.length:Int)))) else (nx109 (s109.1,s109.2))) K (l.map (J31 boxes)) i (all.map (cv boxes),met)) Q
 | [],all,met,i,hA,h0,hl,hm,hn,h=>h met hm
 | x::l,all,met,i,hA,h0,hl,hm,hn,h=>by
  have hx:=hl x (List.mem_cons_self ..)
  rw [Ke] at hn
  have h3:Qb.has met (G81 boxes x.2)=true ↔ ∃ z∈all,z.y.Stacks=x.2:=(hm _).trans ⟨fun⟨z,h1,h2⟩=>⟨z,h1,R31 (hA.ok z h1).1 hx h2⟩,fun⟨z,h1,h2⟩=>⟨z,h1,by rw [h2]⟩⟩
  have h4:=hA.addN h0 hx
  have ea:G3e H (at_:Int) all (x::l)=G3e H (at_:Int) (addN H (at_:Int) all x) l:=rfl
  rw [ea] at h
  rw [List.map_cons,each]
  refine Gg rfl (J0 (fun hf=>?_) (fun hf=>?_))
  ·have h6:¬ ∃ z∈all,z.y.Stacks=x.2:=fun g=>by
    have hf:(!(Qb.has met (G81 boxes x.2)))=true:=hf
    rw [h3.2 g] at hf; cases hf
   have en:addN H (at_:Int) all x=all++[⟨⟨x.2,H⟩,at_,⟨x.1.From,x.1.To⟩⟩]:=if_neg h6
   rw [en] at h h4
   refine Jn (Zt (by rw [Kn,Kj]; omega) (by decide)) ?_
   have ec:all.map (cv boxes)++[Gq.mk (J31 boxes x).2 (at_:Int) (J31 boxes x).1]=(all++[(⟨⟨x.2,H⟩,at_,⟨x.1.From,x.1.To⟩⟩:Gb)]).map (cv boxes):=by rw [List.map_append]; rfl
   rw [ec]
   refine R76 l (i+1) h4 (by rw [Ki]; omega) (fun y hy=>hl y (List.mem_cons_of_mem _ hy)) (fun s=>?_) (by rw [Ki,Kj]; omega) h
   rw [Qf0,Kt,Km,hm s]
   constructor
   ·rintro(g | ⟨z,h1,h2⟩)
    ·exact⟨_,Ko.2 (.inr (Kq.2 rfl)),g⟩
    ·exact⟨z,Ko.2 (.inl h1),h2⟩
   ·rintro⟨z,h1,h2⟩
    rcases Ko.1 h1 with h1 | h1
    ·exact .inr ⟨z,h1,h2⟩
    ·rw [Kq] at h1; subst h1; exact .inl h2
  ·have h5:∃ z∈all,z.y.Stacks=x.2:=by
    have hf:(!(Qb.has met (G81 boxes x.2)))=false:=hf
    exact h3.1 (by simpa using hf)
   have en:addN H (at_:Int) all x=all:=if_pos h5
   rw [en] at h
   exact R76 l (i+1) hA h0 (fun y hy=>hl y (List.mem_cons_of_mem _ hy)) hm (by omega) h
end Go.Proofs.YtokjlondbjdlfaaGreat
