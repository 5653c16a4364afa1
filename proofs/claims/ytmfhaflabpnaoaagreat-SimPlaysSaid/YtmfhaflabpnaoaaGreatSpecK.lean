/- Keys of maps,collected and sorted: -/
import Derived.Test.YtmfhaflabpnaoaaGreatXK
set_option maxRecDepth 100000
namespace Go.Proofs.YtmfhaflabpnaoaaGreat
open Go.RowKit

theorem Q21 {β:Type} {k:Option β}:need true k=k:=rfl
theorem Q19 {κ β:Type} {kx:List κ→Option β} {c:Nat}:∀ (q s:List κ),((s.length+q.length)*c≤140737488355328∧s.length+q.length≤maxLen) →
  H00 (fun(x:κ) (s:List κ) nx=>need (decide ((s.length+[x].length)*c≤140737488355328∧s.length+[x].length≤maxLen)) <| nx (s++[x])) kx q s=kx (s++q)
 | [],s,_=>by simp [H00]
 | x::q,s,h=>by
  rw [M8] at h
  have hc:(s.length+[x].length)*c≤(s.length+(q.length+1))*c:=Nat.mul_le_mul_right _ (by simp)
  have hd:decide ((s.length+[x].length)*c≤140737488355328∧s.length+[x].length≤maxLen)=true:=by
   refine Ky ⟨by omega,?_⟩
   rw [Md]; omega
  rw [H00,hd]
  simp only [Q21]
  rw [Q19 q (s++[x]) (by rw [Mc,Md,Nat.add_assoc,Nat.add_comm 1]; exact h)]
  simp
theorem Y66 {seq:List (Option Int)} {Rp:List Int→Prop} (hr:(seq.filterMap id).length*8≤140737488355328∧(seq.filterMap id).length≤maxLen) (h:∀ q,q.Perm (seq.filterMap id)→Rp q):∃ p:Prop,Qv seq Rp=some p∧p:=by
 refine⟨_,rfl,fun q hq=>?_⟩
 rw [Q19 q [] (by simp only [List.length_nil,Nat.zero_add,hq.length_eq]; exact hr),List.nil_append]
 exact⟨_,rfl,h q hq⟩
theorem Y2c {seq:List (Option Slot)} {Rp:List Slot→Prop} (hr:(seq.filterMap id).length*24≤140737488355328∧(seq.filterMap id).length≤maxLen) (h:∀ q,q.Perm (seq.filterMap id)→Rp q):∃ p:Prop,Y2 seq Rp=some p∧p:=by
 refine⟨_,rfl,fun q hq=>?_⟩
 rw [Q19 q [] (by simp only [List.length_nil,Nat.zero_add,hq.length_eq]; exact hr),List.nil_append]
 exact⟨_,rfl,h q hq⟩
def Yd (seq:List (Option Int)):Option (List Int):=
 need (decide ((seq.filterMap id).length*8≤140737488355328∧(seq.filterMap id).length≤maxLen)) <| H37 (seq.filterMap id)
theorem sorted_perm {q l:List Int} (h:q.Perm l):H37 q=H37 l:=by
 have e:Gdf q=Gdf l:=List.Perm.eq_of_pairwise (le:=fun a b:Int=>a≤b) (fun a b _ _ h0 h1=>by omega) (Gd3 q) (Gd3 l) ((Ge9 q).trans (h.trans (Ge9 l).symm))
 unfold H37
 rw [h.length_eq,e]
theorem Gc6 (seq:List (Option Int)) (r:List Int) (h:Yd seq=some r):∃ p:Prop,Rw seq (fun r_=>r_=r)=some p∧p:=by
 obtain⟨hr,h⟩:=Qa h
 have hr:=Kw hr
 unfold Rw Rh
 refine Y66 hr fun q hq=>⟨_,rfl,?_⟩
 refine⟨(r=r),?_,rfl⟩
 show (bnd (H37 q) fun r7=>some (r7=r))=some (r=r)
 rw [sorted_perm hq,h]
 rfl
def Ge0:=PLift.up (Hc8 Yd Gc6)
def Ge1:=PLift.up (Hb3 Yd Gc6)
def Zx (seq:List (Option Slot)):Option (List Slot):=
 need (decide ((seq.filterMap id).length*24≤140737488355328∧(seq.filterMap id).length≤maxLen)) <| some (seq.filterMap id)
theorem H13 (seq:List (Option Slot)) (r:List Slot) (h:Zx seq=some r):∃ p:Prop,Yn seq (fun q=>q.Perm r)=some p∧p:=by
 obtain⟨hr,h⟩:=Qa h
 cases h
 unfold Yn
 exact Y2c (Kw hr) fun q hq=>⟨_,rfl,hq⟩
def H42:=PLift.up (fun(seq:List (Option Slot)) seq_f seq_c seq_B seq_d seq_w (r:List Slot) (h:Zx seq=some r)=>Pure.toBag (by
 obtain⟨p,h1,h2⟩:=H13 seq r h
 exact G85 seq seq_f seq_c seq_B seq_d seq_w _ p h1 h2))
theorem H69 (v:Slot):∀ (l:List Slot) (i:Nat),(bnd (each (fun y i (_:Unit) nx=>bif decide (v=y) then (some (i:Int)) else nx ()) (fun _=>some (-1)) l i ()) fun r=>some (decide (0≤r)))=some (decide (v∈l))
 | [],_=>rfl
 | y::l,i=>by
  rw [each]
  cases h:decide (v=y) with
  | true=>
   have:=Kw h
   subst this
   simp [bnd]
  | false=>
   have hn:=Kx h
   rw [cond_false]
   have:=H69 v l (i+1)
   rw [this]
   simp [hn]
theorem Q8c {x:Slot} {q l:List Slot} (h:q.Perm l):G3e x q=G3e x l:=by
 have hc:∀ v,Qg q v=Qg l v:=fun v=>by
  unfold Qg Y9
  rw [H69,H69]
  congr 1
  exact decide_eq_decide.2 h.mem_iff
 have h1:∀ half,Z5 half q x=Z5 half l x:=fun half=>by
  unfold Z5
  simp only [hc]
 unfold G3e
 simp only [h1]
def H12 (x:Slot) (l:List Slot):Option Bool:=G3e x l
def J57:=PLift.up (fun(x:Slot) (l:List Slot) (r:Bool) (h:H12 x l=some r)=>Pure.ofBag (pre:=[.agg [I64 x.G1,I64 x.Tier,U8 x.Half]]) (fun zs hz=>J13 x zs r ((Q8c hz).trans h)))
end Go.Proofs.YtmfhaflabpnaoaaGreat
