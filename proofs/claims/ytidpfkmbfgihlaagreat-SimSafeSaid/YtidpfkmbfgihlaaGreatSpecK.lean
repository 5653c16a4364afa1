/- Keys of maps,collected and sorted: -/
import Derived.Test.YtidpfkmbfgihlaaGreatXK
set_option maxRecDepth 100000
namespace Go.Proofs.YtidpfkmbfgihlaaGreat
open Go.RowKit

theorem Q8b {β:Type} {k:Option β}:need true k=k:=rfl
theorem Q84 {κ β:Type} {kx:List κ→Option β} {c:Nat}:∀ (q s:List κ),((s.length+q.length)*c≤140737488355328∧s.length+q.length≤maxLen) →
  H2a (fun(x:κ) (s:List κ) nx=>need (decide ((s.length+[x].length)*c≤140737488355328∧s.length+[x].length≤maxLen)) <| nx (s++[x])) kx q s=kx (s++q)
 | [],s,_=>by simp [H2a]
 | x::q,s,h=>by
  rw [Mb] at h
  have hc:(s.length+[x].length)*c≤(s.length+(q.length+1))*c:=Nat.mul_le_mul_right _ (by simp)
  have hd:decide ((s.length+[x].length)*c≤140737488355328∧s.length+[x].length≤maxLen)=true:=by
   refine M1 ⟨by omega,?_⟩
   rw [Mg]; omega
  rw [H2a,hd]
  simp only [Q8b]
  rw [Q84 q (s++[x]) (by rw [Mf,Mg,Nat.add_assoc,Nat.add_comm 1]; exact h)]
  simp
theorem Yed {seq:List (Option Int)} {Rp:List Int→Prop} (hr:(seq.filterMap id).length*8≤140737488355328∧(seq.filterMap id).length≤maxLen) (h:∀ q,q.Perm (seq.filterMap id)→Rp q):∃ p:Prop,R2 seq Rp=some p∧p:=by
 refine⟨_,rfl,fun q hq=>?_⟩
 rw [Q84 q [] (by simp only [List.length_nil,Nat.zero_add,hq.length_eq]; exact hr),List.nil_append]
 exact⟨_,rfl,h q hq⟩
theorem Yb0 {seq:List (Option Slot)} {Rp:List Slot→Prop} (hr:(seq.filterMap id).length*24≤140737488355328∧(seq.filterMap id).length≤maxLen) (h:∀ q,q.Perm (seq.filterMap id)→Rp q):∃ p:Prop,Yf seq Rp=some p∧p:=by
 refine⟨_,rfl,fun q hq=>?_⟩
 rw [Q84 q [] (by simp only [List.length_nil,Nat.zero_add,hq.length_eq]; exact hr),List.nil_append]
 exact⟨_,rfl,h q hq⟩
def Yq (seq:List (Option Int)):Option (List Int):=
 need (decide ((seq.filterMap id).length*8≤140737488355328∧(seq.filterMap id).length≤maxLen)) <| H72 (seq.filterMap id)
theorem sorted_perm {q l:List Int} (h:q.Perm l):H72 q=H72 l:=by
 have e:H03 q=H03 l:=List.Perm.eq_of_pairwise (le:=fun a b:Int=>a≤b) (fun a b _ _ h0 h1=>by omega) (Gf2 q) (Gf2 l) ((H10 q).trans (h.trans (H10 l).symm))
 unfold H72
 rw [h.length_eq,e]
theorem Ge0 (seq:List (Option Int)) (r:List Int) (h:Yq seq=some r):∃ p:Prop,Y3 seq (fun r_=>r_=r)=some p∧p:=by
 obtain⟨hr,h⟩:=J8 h
 have hr:=Kz hr
 unfold Y3 Rm
 refine Yed hr fun q hq=>⟨_,rfl,?_⟩
 refine⟨(r=r),?_,rfl⟩
 show (bnd (H72 q) fun r7=>some (r7=r))=some (r=r)
 rw [sorted_perm hq,h]
 rfl
def H04:=PLift.up (J0f Yq Ge0)
def H05:=PLift.up (Hf7 Yq Ge0)
def G04 (seq:List (Option Slot)):Option (List Slot):=
 need (decide ((seq.filterMap id).length*24≤140737488355328∧(seq.filterMap id).length≤maxLen)) <| some (seq.filterMap id)
theorem H46 (seq:List (Option Slot)) (r:List Slot) (h:G04 seq=some r):∃ p:Prop,Z2 seq (fun q=>q.Perm r)=some p∧p:=by
 obtain⟨hr,h⟩:=J8 h
 cases h
 unfold Z2
 exact Yb0 (Kz hr) fun q hq=>⟨_,rfl,hq⟩
def H82:=PLift.up (fun(seq:List (Option Slot)) seq_f seq_c seq_B seq_d seq_w (r:List Slot) (h:G04 seq=some r)=>Pure.toBag (by
 obtain⟨p,h1,h2⟩:=H46 seq r h
 exact G9b seq seq_f seq_c seq_B seq_d seq_w _ p h1 h2))
theorem Had (v:Slot):∀ (l:List Slot) (i:Nat),(bnd (each (fun y i (_:Unit) nx=>bif decide (v=y) then (some (i:Int)) else nx ()) (fun _=>some (-1)) l i ()) fun r=>some (decide (0≤r)))=some (decide (v∈l))
 | [],_=>rfl
 | y::l,i=>by
  rw [each]
  cases h:decide (v=y) with
  | true=>
   have:=Kz h
   subst this
   simp [bnd]
  | false=>
   have hn:=M0 h
   rw [cond_false]
   have:=Had v l (i+1)
   rw [this]
   simp [hn]
theorem R04 {x:Slot} {q l:List Slot} (h:q.Perm l):G25 x q=G25 x l:=by
 have hc:∀ v,Qi q v=Qi l v:=fun v=>by
  unfold Qi Yp
  rw [Had,Had]
  congr 1
  exact decide_eq_decide.2 h.mem_iff
 have h1:∀ half,Zg half q x=Zg half l x:=fun half=>by
  unfold Zg
  simp only [hc]
 unfold G25
 simp only [h1]
def H45 (x:Slot) (l:List Slot):Option Bool:=G25 x l
def Jba:=PLift.up (fun(x:Slot) (l:List Slot) (r:Bool) (h:H45 x l=some r)=>Pure.ofBag (pre:=[.agg [I64 x.G2,I64 x.Tier,U8 x.Half]]) (fun zs hz=>Haf x zs r ((R04 hz).trans h)))
end Go.Proofs.YtidpfkmbfgihlaaGreat
