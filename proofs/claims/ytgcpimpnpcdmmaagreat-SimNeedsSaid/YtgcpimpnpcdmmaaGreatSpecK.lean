/- Keys of maps,collected and sorted: -/
import Derived.Test.YtgcpimpnpcdmmaaGreatXK
set_option maxRecDepth 100000
namespace Go.Proofs.YtgcpimpnpcdmmaaGreat
open Go.RowKit

theorem Qd2 {β:Type} {k:Option β}:need true k=k:=rfl
theorem Qc8 {κ β:Type} {kx:List κ→Option β} {c:Nat}:∀ (q s:List κ),((s.length+q.length)*c≤140737488355328∧s.length+q.length≤maxLen) →
  H11 (fun(x:κ) (s:List κ) nx=>need (decide ((s.length+[x].length)*c≤140737488355328∧s.length+[x].length≤maxLen)) <| nx (s++[x])) kx q s=kx (s++q)
 | [],s,_=>by simp [H11]
 | x::q,s,h=>by
  rw [Me] at h
  have hc:(s.length+[x].length)*c≤(s.length+(q.length+1))*c:=Nat.mul_le_mul_right _ (by simp)
  have hd:decide ((s.length+[x].length)*c≤140737488355328∧s.length+[x].length≤maxLen)=true:=by
   refine M4 ⟨by omega,?_⟩
   rw [Mj]; omega
  rw [H11,hd]
  simp only [Qd2]
  rw [Qc8 q (s++[x]) (by rw [Mi,Mj,Nat.add_assoc,Nat.add_comm 1]; exact h)]
  simp
theorem Z6a {seq:List (Option Int)} {Rp:List Int→Prop} (hr:(seq.filterMap id).length*8≤140737488355328∧(seq.filterMap id).length≤maxLen) (h:∀ q,q.Perm (seq.filterMap id)→Rp q):∃ p:Prop,Qv seq Rp=some p∧p:=by
 refine⟨_,rfl,fun q hq=>?_⟩
 rw [Qc8 q [] (by simp only [List.length_nil,Nat.zero_add,hq.length_eq]; exact hr),List.nil_append]
 exact⟨_,rfl,h q hq⟩
theorem Z20 {seq:List (Option Slot)} {Rp:List Slot→Prop} (hr:(seq.filterMap id).length*24≤140737488355328∧(seq.filterMap id).length≤maxLen) (h:∀ q,q.Perm (seq.filterMap id)→Rp q):∃ p:Prop,Y9 seq Rp=some p∧p:=by
 refine⟨_,rfl,fun q hq=>?_⟩
 rw [Qc8 q [] (by simp only [List.length_nil,Nat.zero_add,hq.length_eq]; exact hr),List.nil_append]
 exact⟨_,rfl,h q hq⟩
def Yr (seq:List (Option Int)):Option (List Int):=
 need (decide ((seq.filterMap id).length*8≤140737488355328∧(seq.filterMap id).length≤maxLen)) <| Ga7 (seq.filterMap id)
theorem sorted_perm {q l:List Int} (h:q.Perm l):Ga7 q=Ga7 l:=by
 have e:Gd6 q=Gd6 l:=List.Perm.eq_of_pairwise (le:=fun a b:Int=>a≤b) (fun a b _ _ h0 h1=>by omega) (Gc1 q) (Gc1 l) ((Ga6 q).trans (h.trans (Ga6 l).symm))
 unfold Ga7
 rw [h.length_eq,e]
theorem Gff (seq:List (Option Int)) (r:List Int) (h:Yr seq=some r):∃ p:Prop,Rt seq (fun r_=>r_=r)=some p∧p:=by
 obtain⟨hr,h⟩:=Jf h
 have hr:=M2 hr
 unfold Rt R7
 refine Z6a hr fun q hq=>⟨_,rfl,?_⟩
 refine⟨(r=r),?_,rfl⟩
 show (bnd (Ga7 q) fun r7=>some (r7=r))=some (r=r)
 rw [sorted_perm hq,h]
 rfl
def H29:=PLift.up (J27 Yr Gff)
def G06 (seq:List (Option Slot)):Option (List Slot):=
 need (decide ((seq.filterMap id).length*24≤140737488355328∧(seq.filterMap id).length≤maxLen)) <| some (seq.filterMap id)
theorem H70 (seq:List (Option Slot)) (r:List Slot) (h:G06 seq=some r):∃ p:Prop,Yz seq (fun q=>q.Perm r)=some p∧p:=by
 obtain⟨hr,h⟩:=Jf h
 cases h
 unfold Yz
 exact Z20 (M2 hr) fun q hq=>⟨_,rfl,hq⟩
def Ha7:=PLift.up (fun(seq:List (Option Slot)) seq_f seq_c seq_B seq_d seq_w (r:List Slot) (h:G06 seq=some r)=>Pure.toBag (by
 obtain⟨p,h1,h2⟩:=H70 seq r h
 exact Gb4 seq seq_f seq_c seq_B seq_d seq_w _ p h1 h2))
theorem Hdf (v:Slot):∀ (l:List Slot) (i:Nat),(bnd (each (fun y i (_:Unit) nx=>bif decide (v=y) then (some (i:Int)) else nx ()) (fun _=>some (-1)) l i ()) fun r=>some (decide (0≤r)))=some (decide (v∈l))
 | [],_=>rfl
 | y::l,i=>by
  rw [each]
  cases h:decide (v=y) with
  | true=>
   have:=M2 h
   subst this
   simp [bnd]
  | false=>
   have hn:=M3 h
   rw [cond_false]
   have:=Hdf v l (i+1)
   rw [this]
   simp [hn]
theorem R48 {x:Slot} {q l:List Slot} (h:q.Perm l):G4c x q=G4c x l:=by
 have hc:∀ v,Qf q v=Qf l v:=fun v=>by
  unfold Qf Yn
  rw [Hdf,Hdf]
  congr 1
  exact decide_eq_decide.2 h.mem_iff
 have h1:∀ half,Zn half q x=Zn half l x:=fun half=>by
  unfold Zn
  simp only [hc]
 unfold G4c
 simp only [h1]
def H6f (x:Slot) (l:List Slot):Option Bool:=G4c x l
def Jf9:=PLift.up (fun(x:Slot) (l:List Slot) (r:Bool) (h:H6f x l=some r)=>Pure.ofBag (pre:=[.agg [I64 x.G3,I64 x.Tier,U8 x.Half]]) (fun zs hz=>Ja7 x zs r ((R48 hz).trans h)))
end Go.Proofs.YtgcpimpnpcdmmaaGreat
