/- Keys of maps,collected and sorted: -/
import Derived.Test.YtgcpimpnpcdmmaaGreatXK
set_option maxRecDepth 100000
namespace Go.Proofs.YtgcpimpnpcdmmaaGreat
open Go.RowKit

theorem Qc4 {β:Type} {k:Option β}:need true k=k:=rfl
theorem Qbc {κ β:Type} {kx:List κ→Option β} {c:Nat}:∀ (q s:List κ),((s.length+q.length)*c≤140737488355328∧s.length+q.length≤maxLen) →
  H0b (fun(x:κ) (s:List κ) nx=>need (decide ((s.length+[x].length)*c≤140737488355328∧s.length+[x].length≤maxLen)) <| nx (s++[x])) kx q s=kx (s++q)
 | [],s,_=>by simp [H0b]
 | x::q,s,h=>by
  rw [Md] at h
  have hc:(s.length+[x].length)*c≤(s.length+(q.length+1))*c:=Nat.mul_le_mul_right _ (by simp)
  have hd:decide ((s.length+[x].length)*c≤140737488355328∧s.length+[x].length≤maxLen)=true:=by
   refine M3 ⟨by omega,?_⟩
   rw [Mi]; omega
  rw [H0b,hd]
  simp only [Qc4]
  rw [Qbc q (s++[x]) (by rw [Mh,Mi,Nat.add_assoc,Nat.add_comm 1]; exact h)]
  simp
theorem Z61 {seq:List (Option Int)} {Rp:List Int→Prop} (hr:(seq.filterMap id).length*8≤140737488355328∧(seq.filterMap id).length≤maxLen) (h:∀ q,q.Perm (seq.filterMap id)→Rp q):∃ p:Prop,Qq seq Rp=some p∧p:=by
 refine⟨_,rfl,fun q hq=>?_⟩
 rw [Qbc q [] (by simp only [List.length_nil,Nat.zero_add,hq.length_eq]; exact hr),List.nil_append]
 exact⟨_,rfl,h q hq⟩
theorem Z17 {seq:List (Option Slot)} {Rp:List Slot→Prop} (hr:(seq.filterMap id).length*24≤140737488355328∧(seq.filterMap id).length≤maxLen) (h:∀ q,q.Perm (seq.filterMap id)→Rp q):∃ p:Prop,Y2 seq Rp=some p∧p:=by
 refine⟨_,rfl,fun q hq=>?_⟩
 rw [Qbc q [] (by simp only [List.length_nil,Nat.zero_add,hq.length_eq]; exact hr),List.nil_append]
 exact⟨_,rfl,h q hq⟩
def Ye (seq:List (Option Int)):Option (List Int):=
 need (decide ((seq.filterMap id).length*8≤140737488355328∧(seq.filterMap id).length≤maxLen)) <| G9b (seq.filterMap id)
theorem sorted_perm {q l:List Int} (h:q.Perm l):G9b q=G9b l:=by
 have e:Gd0 q=Gd0 l:=List.Perm.eq_of_pairwise (le:=fun a b:Int=>a≤b) (fun a b _ _ h0 h1=>by omega) (Gb6 q) (Gb6 l) ((G9a q).trans (h.trans (G9a l).symm))
 unfold G9b
 rw [h.length_eq,e]
theorem Gfa (seq:List (Option Int)) (r:List Int) (h:Ye seq=some r):∃ p:Prop,Ri seq (fun r_=>r_=r)=some p∧p:=by
 obtain⟨hr,h⟩:=Ji h
 have hr:=M1 hr
 unfold Ri R3
 refine Z61 hr fun q hq=>⟨_,rfl,?_⟩
 refine⟨(r=r),?_,rfl⟩
 show (bnd (G9b q) fun r7=>some (r7=r))=some (r=r)
 rw [sorted_perm hq,h]
 rfl
def H21:=PLift.up (J14 Ye Gfa)
def Zx (seq:List (Option Slot)):Option (List Slot):=
 need (decide ((seq.filterMap id).length*24≤140737488355328∧(seq.filterMap id).length≤maxLen)) <| some (seq.filterMap id)
theorem H65 (seq:List (Option Slot)) (r:List Slot) (h:Zx seq=some r):∃ p:Prop,Yn seq (fun q=>q.Perm r)=some p∧p:=by
 obtain⟨hr,h⟩:=Ji h
 cases h
 unfold Yn
 exact Z17 (M1 hr) fun q hq=>⟨_,rfl,hq⟩
def H96:=PLift.up (fun(seq:List (Option Slot)) seq_f seq_c seq_B seq_d seq_w (r:List Slot) (h:Zx seq=some r)=>Pure.toBag (by
 obtain⟨p,h1,h2⟩:=H65 seq r h
 exact Ga6 seq seq_f seq_c seq_B seq_d seq_w _ p h1 h2))
theorem Hd0 (v:Slot):∀ (l:List Slot) (i:Nat),(bnd (each (fun y i (_:Unit) nx=>bif decide (v=y) then (some (i:Int)) else nx ()) (fun _=>some (-1)) l i ()) fun r=>some (decide (0≤r)))=some (decide (v∈l))
 | [],_=>rfl
 | y::l,i=>by
  rw [each]
  cases h:decide (v=y) with
  | true=>
   have:=M1 h
   subst this
   simp [bnd]
  | false=>
   have hn:=M2 h
   rw [cond_false]
   have:=Hd0 v l (i+1)
   rw [this]
   simp [hn]
theorem R3b {x:Slot} {q l:List Slot} (h:q.Perm l):G43 x q=G43 x l:=by
 have hc:∀ v,Qc q v=Qc l v:=fun v=>by
  unfold Qc Ya
  rw [Hd0,Hd0]
  congr 1
  exact decide_eq_decide.2 h.mem_iff
 have h1:∀ half,Zd half q x=Zd half l x:=fun half=>by
  unfold Zd
  simp only [hc]
 unfold G43
 simp only [h1]
def H64 (x:Slot) (l:List Slot):Option Bool:=G43 x l
def Jea:=PLift.up (fun(x:Slot) (l:List Slot) (r:Bool) (h:H64 x l=some r)=>Pure.ofBag (pre:=[.agg [I64 x.G3,I64 x.Tier,U8 x.Half]]) (fun zs hz=>J92 x zs r ((R3b hz).trans h)))
end Go.Proofs.YtgcpimpnpcdmmaaGreat
