/- Keys of maps,collected and sorted: -/
import Derived.Test.YtgcpimpnpcdmmaaGreatXK
set_option maxRecDepth 100000
namespace Go.Proofs.YtgcpimpnpcdmmaaGreat
open Go.RowKit

theorem Qa9 {β:Type} {k:Option β}:need true k=k:=rfl
theorem Qa1 {κ β:Type} {kx:List κ→Option β} {c:Nat}:∀ (q s:List κ),((s.length+q.length)*c≤140737488355328∧s.length+q.length≤maxLen) →
  Gf8 (fun(x:κ) (s:List κ) nx=>need (decide ((s.length+[x].length)*c≤140737488355328∧s.length+[x].length≤maxLen)) <| nx (s++[x])) kx q s=kx (s++q)
 | [],s,_=>by simp [Gf8]
 | x::q,s,h=>by
  rw [Md] at h
  have hc:(s.length+[x].length)*c≤(s.length+(q.length+1))*c:=Nat.mul_le_mul_right _ (by simp)
  have hd:decide ((s.length+[x].length)*c≤140737488355328∧s.length+[x].length≤maxLen)=true:=by
   refine M3 ⟨by omega,?_⟩
   rw [Mi]; omega
  rw [Gf8,hd]
  simp only [Qa9]
  rw [Qa1 q (s++[x]) (by rw [Mh,Mi,Nat.add_assoc,Nat.add_comm 1]; exact h)]
  simp
theorem Z3b {seq:List (Option Int)} {Rp:List Int→Prop} (hr:(seq.filterMap id).length*8≤140737488355328∧(seq.filterMap id).length≤maxLen) (h:∀ q,q.Perm (seq.filterMap id)→Rp q):∃ p:Prop,Qp seq Rp=some p∧p:=by
 refine⟨_,rfl,fun q hq=>?_⟩
 rw [Qa1 q [] (by simp only [List.length_nil,Nat.zero_add,hq.length_eq]; exact hr),List.nil_append]
 exact⟨_,rfl,h q hq⟩
theorem Yf1 {seq:List (Option Slot)} {Rp:List Slot→Prop} (hr:(seq.filterMap id).length*24≤140737488355328∧(seq.filterMap id).length≤maxLen) (h:∀ q,q.Perm (seq.filterMap id)→Rp q):∃ p:Prop,Rx seq Rp=some p∧p:=by
 refine⟨_,rfl,fun q hq=>?_⟩
 rw [Qa1 q [] (by simp only [List.length_nil,Nat.zero_add,hq.length_eq]; exact hr),List.nil_append]
 exact⟨_,rfl,h q hq⟩
def Ya (seq:List (Option Int)):Option (List Int):=
 need (decide ((seq.filterMap id).length*8≤140737488355328∧(seq.filterMap id).length≤maxLen)) <| G8a (seq.filterMap id)
theorem sorted_perm {q l:List Int} (h:q.Perm l):G8a q=G8a l:=by
 have e:Gbe q=Gbe l:=List.Perm.eq_of_pairwise (le:=fun a b:Int=>a≤b) (fun a b _ _ h0 h1=>by omega) (Ga6 q) (Ga6 l) ((G89 q).trans (h.trans (G89 l).symm))
 unfold G8a
 rw [h.length_eq,e]
theorem Ge6 (seq:List (Option Int)) (r:List Int) (h:Ya seq=some r):∃ p:Prop,Rg seq (fun r_=>r_=r)=some p∧p:=by
 obtain⟨hr,h⟩:=Jf h
 have hr:=M1 hr
 unfold Rg R1
 refine Z3b hr fun q hq=>⟨_,rfl,?_⟩
 refine⟨(r=r),?_,rfl⟩
 show (bnd (G8a q) fun r7=>some (r7=r))=some (r=r)
 rw [sorted_perm hq,h]
 rfl
def H10:=PLift.up (Hff Ya Ge6)
def Zn (seq:List (Option Slot)):Option (List Slot):=
 need (decide ((seq.filterMap id).length*24≤140737488355328∧(seq.filterMap id).length≤maxLen)) <| some (seq.filterMap id)
theorem H51 (seq:List (Option Slot)) (r:List Slot) (h:Zn seq=some r):∃ p:Prop,Yi seq (fun q=>q.Perm r)=some p∧p:=by
 obtain⟨hr,h⟩:=Jf h
 cases h
 unfold Yi
 exact Yf1 (M1 hr) fun q hq=>⟨_,rfl,hq⟩
def H86:=PLift.up (fun(seq:List (Option Slot)) seq_f seq_c seq_B seq_d seq_w (r:List Slot) (h:Zn seq=some r)=>Pure.toBag (by
 obtain⟨p,h1,h2⟩:=H51 seq r h
 exact G96 seq seq_f seq_c seq_B seq_d seq_w _ p h1 h2))
theorem Hbd (v:Slot):∀ (l:List Slot) (i:Nat),(bnd (each (fun y i (_:Unit) nx=>bif decide (v=y) then (some (i:Int)) else nx ()) (fun _=>some (-1)) l i ()) fun r=>some (decide (0≤r)))=some (decide (v∈l))
 | [],_=>rfl
 | y::l,i=>by
  rw [each]
  cases h:decide (v=y) with
  | true=>
   have:=M1 h
   subst this
   simp [bnd]
  | false=>
   have hn:=M2 h
   rw [cond_false]
   have:=Hbd v l (i+1)
   rw [this]
   simp [hn]
theorem R1d {x:Slot} {q l:List Slot} (h:q.Perm l):G37 x q=G37 x l:=by
 have hc:∀ v,Qc q v=Qc l v:=fun v=>by
  unfold Qc Y6
  rw [Hbd,Hbd]
  congr 1
  exact decide_eq_decide.2 h.mem_iff
 have h1:∀ half,Z2 half q x=Z2 half l x:=fun half=>by
  unfold Z2
  simp only [hc]
 unfold G37
 simp only [h1]
def H50 (x:Slot) (l:List Slot):Option Bool:=G37 x l
def Jca:=PLift.up (fun(x:Slot) (l:List Slot) (r:Bool) (h:H50 x l=some r)=>Pure.ofBag (pre:=[.agg [I64 x.G3,I64 x.Tier,U8 x.Half]]) (fun zs hz=>J7c x zs r ((R1d hz).trans h)))
end Go.Proofs.YtgcpimpnpcdmmaaGreat
