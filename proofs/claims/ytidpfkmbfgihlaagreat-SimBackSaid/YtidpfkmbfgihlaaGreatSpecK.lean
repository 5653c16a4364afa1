/-
 Keys of maps,collected and sorted: what the functions return,whatever the order.
-/
import Derived.Test.YtidpfkmbfgihlaaGreatXK
set_option maxRecDepth 100000
namespace Go.Proofs.YtidpfkmbfgihlaaGreat
open Go.RowKit

theorem Q7f {β:Type} {k:Option β}:need true k=k:=rfl
theorem Q78 {κ β:Type} {kx:List κ→Option β} {c:Nat}:∀ (q s:List κ),((s.length+q.length)*c≤140737488355328∧s.length+q.length≤maxLen) →
  H24 (fun(x:κ) (s:List κ) nx=>need (decide ((s.length+[x].length)*c≤140737488355328∧s.length+[x].length≤maxLen)) <| nx (s++[x])) kx q s=kx (s++q)
 | [],s,_=>by simp [H24]
 | x::q,s,h=>by
  rw [List.length_cons] at h
  have hc:(s.length+[x].length)*c≤(s.length+(q.length+1))*c:=Nat.mul_le_mul_right _ (by simp)
  have hd:decide ((s.length+[x].length)*c≤140737488355328∧s.length+[x].length≤maxLen)=true:=by
   refine decide_eq_true ⟨by omega,?_⟩
   rw [List.length_singleton]; omega
  rw [H24,hd]
  simp only [Q7f]
  rw [Q78 q (s++[x]) (by rw [List.length_append,List.length_singleton,Nat.add_assoc,Nat.add_comm 1]; exact h)]
  simp
theorem Ydc {seq:List (Option Int)} {Rp:List Int→Prop} (hr:(seq.filterMap id).length*8≤140737488355328∧(seq.filterMap id).length≤maxLen) (h:∀ q,q.Perm (seq.filterMap id)→Rp q):∃ p:Prop,R2 seq Rp=some p∧p:=by
 refine⟨_,rfl,fun q hq=>?_⟩
 rw [Q78 q [] (by simp only [List.length_nil,Nat.zero_add,hq.length_eq]; exact hr),List.nil_append]
 exact⟨_,rfl,h q hq⟩
theorem Y9a {seq:List (Option Slot)} {Rp:List Slot→Prop} (hr:(seq.filterMap id).length*24≤140737488355328∧(seq.filterMap id).length≤maxLen) (h:∀ q,q.Perm (seq.filterMap id)→Rp q):∃ p:Prop,Yc seq Rp=some p∧p:=by
 refine⟨_,rfl,fun q hq=>?_⟩
 rw [Q78 q [] (by simp only [List.length_nil,Nat.zero_add,hq.length_eq]; exact hr),List.nil_append]
 exact⟨_,rfl,h q hq⟩
def Yn (seq:List (Option Int)):Option (List Int):=
 need (decide ((seq.filterMap id).length*8≤140737488355328∧(seq.filterMap id).length≤maxLen)) <| H6a (seq.filterMap id)
theorem sorted_perm {q l:List Int} (h:q.Perm l):H6a q=H6a l:=by
 have e:Gfd q=Gfd l:=List.Perm.eq_of_pairwise (le:=fun a b:Int=>a≤b) (fun a b _ _ hab hba=>by omega) (Gee q) (Gee l) ((H09 q).trans (h.trans (H09 l).symm))
 unfold H6a
 rw [h.length_eq,e]
theorem Gdc (seq:List (Option Int)) (r:List Int) (h:Yn seq=some r):∃ p:Prop,Y0 seq (fun r_=>r_=r)=some p∧p:=by
 obtain⟨hr,h⟩:=J7 h
 have hr:=of_decide_eq_true hr
 unfold Y0 Rj
 refine Ydc hr fun q hq=>⟨_,rfl,?_⟩
 refine⟨(r=r),?_,rfl⟩
 show (bnd (H6a q) fun r7=>some (r7=r))=some (r=r)
 rw [sorted_perm hq,h]
 rfl
def Gfe:=PLift.up (J0a Yn Gdc)
def Gff:=PLift.up (Hf2 Yn Gdc)
def Zy (seq:List (Option Slot)):Option (List Slot):=
 need (decide ((seq.filterMap id).length*24≤140737488355328∧(seq.filterMap id).length≤maxLen)) <| some (seq.filterMap id)
theorem H41 (seq:List (Option Slot)) (r:List Slot) (h:Zy seq=some r):∃ p:Prop,Yx seq (fun q=>q.Perm r)=some p∧p:=by
 obtain⟨hr,h⟩:=J7 h
 cases h
 unfold Yx
 exact Y9a (of_decide_eq_true hr) fun q hq=>⟨_,rfl,hq⟩
def H7a:=PLift.up (fun(seq:List (Option Slot)) seq_f seq_c seq_B seq_d seq_w (r:List Slot) (h:Zy seq=some r)=>Pure.toBag (by
 obtain⟨p,h1,h2⟩:=H41 seq r h
 exact G95 seq seq_f seq_c seq_B seq_d seq_w _ p h1 h2))
theorem Ha6 (v:Slot):∀ (l:List Slot) (i:Nat),(bnd (each (fun y i (_:Unit) nx=>bif decide (v=y) then (some (i:Int)) else nx ()) (fun _=>some (-1)) l i ()) fun r=>some (decide (0≤r)))=some (decide (v∈l))
 | [],_=>rfl
 | y::l,i=>by
  rw [each]
  cases h:decide (v=y) with
  | true=>
   have:=of_decide_eq_true h
   subst this
   simp [bnd]
  | false=>
   have hn:=of_decide_eq_false h
   rw [cond_false]
   have:=Ha6 v l (i+1)
   rw [this]
   simp [hn]
theorem Qf7 {x:Slot} {q l:List Slot} (h:q.Perm l):G1f x q=G1f x l:=by
 have hc:∀ v,Qi q v=Qi l v:=fun v=>by
  unfold Qi Ym
  rw [Ha6,Ha6]
  congr 1
  exact decide_eq_decide.2 h.mem_iff
 have h1:∀ half,Zc half q x=Zc half l x:=fun half=>by
  unfold Zc
  simp only [hc]
 unfold G1f
 simp only [h1]
def H40 (x:Slot) (l:List Slot):Option Bool:=G1f x l
def Jae:=PLift.up (fun(x:Slot) (l:List Slot) (r:Bool) (h:H40 x l=some r)=>Pure.ofBag (pre:=[.agg [I64 x.G2,I64 x.Tier,U8 x.Half]]) (fun zs hz=>Ha8 x zs r ((Qf7 hz).trans h)))
end Go.Proofs.YtidpfkmbfgihlaaGreat
