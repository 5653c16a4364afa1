/-
 A statement whose order is open,in which more than one operation turns the local memory without an order between them (two variables that are made). Slices of the call's own,sorted in place by the library. slices.SortFunc in a model.
-/
import Derived.Test.YtapmanciffiibaaGreatMapM
import Derived.Shelf.SlSortCmp.WholeK
set_option linter.unusedVariables false
set_option linter.unusedSimpArgs false
set_option linter.unnecessarySimpa false
namespace Go.Proofs.YtapmanciffiibaaGreat
open Go.RowKit

def G9f (L L':Loc):Prop:=∀ id,lk L id=lk L' id
theorem Sat.locEq {w:World} {β:Gr} {L L':Loc} (h:Sat w β L) (e:G9f L L'):Sat w β L':=by
 have hS:∀ b i,Hw w β L b i→Hw w β L' b i:=fun b i hs=>⟨hs.lt,hs.seen,fun id o ho=>hs.kept id o (by rw [e]; exact ho)⟩
 exact⟨h.hid,fun id b h1=>h.bnd id b (by rw [e]; exact h1),fun id b j h1=>h.apart id b j (by rw [e]; exact h1),fun id id' b h1 h2=>h.inj id id' b (by rw [e]; exact h1) (by rw [e]; exact h2),
  fun id o ho=>(h.obj id o (by rw [e]; exact ho)).up hS (fun id o ho=>⟨by rw [← e]; exact ho,rfl⟩)⟩
theorem Step.locEq {w w':World} {β β':Gr} {L L1 L':Loc} (h:Step w β L w' β' L1) (e:G9f L1 L'):Step w β L w' β' L' where
 os:=h.os
 tape:=h.tape
 output:=h.output
 size:=h.size
 hid:=h.hid
 stab:=fun b i hs=>by
  obtain⟨h1,h2⟩:=h.stab b i hs
  exact⟨⟨h1.lt,h1.seen,fun id o ho=>h1.kept id o (by rw [e]; exact ho)⟩,h2⟩
 far:=fun b hb hf=>by
  obtain⟨h1,h2⟩:=h.far b hb hf
  exact⟨h1,fun id hid=>h2 id (by rw [e]; exact hid)⟩
 box:=fun id t cs hi=>by obtain⟨h1,cs',h2⟩:=h.box id t cs hi; exact⟨h1,cs',by rw [← e]; exact h2⟩
 map:=fun id t cs hi=>by obtain⟨h1,cs',h2⟩:=h.map id t cs hi; exact⟨h1,cs',by rw [← e]; exact h2⟩
 iter:=fun id m n cs hi=>by obtain⟨h1,n',cs',h2⟩:=h.iter id m n cs hi; exact⟨h1,n',cs',by rw [← e]; exact h2⟩
 vec:=fun id t k ver xs hi=>by obtain⟨v,xs',h1,h2,h3⟩:=h.vec id t k ver xs hi; exact⟨v,xs',by rw [← e]; exact h1,h2,h3⟩
 spare:=fun id t k ver xs hi=>by obtain⟨v,xs',h1,h2,h3⟩:=h.spare id t k ver xs hi; exact⟨v,xs',by rw [← e]; exact h1,h2,h3⟩
theorem V.locEq {w:World} {β:Gr} {L L':Loc} {u:AV} {v:Value} (h:V w β L u v) (e:G9f L L'):V w β L' u v:=
 h.up (fun b i hs=>⟨hs.lt,hs.seen,fun id o ho=>hs.kept id o (by rw [e]; exact ho)⟩) (fun id o ho=>⟨by rw [← e]; exact ho,rfl⟩)
theorem G13.locEq {P:Program} {N:Yu} {ops:Array Oper} {o:Oper} {l:Fr} {L L1 L':Loc} {u:AV} (h:G13 P N ops o l L u L1) (e:G9f L1 L'):G13 P N ops o l L u L':=
 fun a w β K Q h1 h2 h3 h4=>h a w β K Q h1 h2 h3 (fun v w' β' k1 k2 k3=>h4 v w' β' (k1.locEq e) (k2.locEq e) (k3.locEq e))
def H48 (ks:List Nat):Loc→Bool
 | []=>true
 | (i,_)::r=>ks.contains i&&H48 ks r
def eqOn (L L':Loc):List Nat→Prop
 | []=>True
 | k::r=>lk L k=lk L' k∧eqOn L L' r
theorem H47 {ks:List Nat} {id:Nat} (h:id ∉ ks):∀ {L:Loc},H48 ks L=true→lk L id=none
 | [],_=>rfl
 | (i,o)::r,hk=>by
  simp only [H48,Bool.and_eq_true] at hk
  rw [Gb,if_neg (fun e=>h (by subst e; simpa using hk.1))]
  exact H47 h hk.2
theorem G9f.of {L L':Loc} (ks:List Nat) (h1:H48 ks L=true) (h2:H48 ks L'=true) (h3:eqOn L L' ks):G9f L L':=fun id=>by
 by_cases h:id∈ks
 ·clear h1 h2
  induction ks with
  | nil=>cases h
  | cons k r ih=>
   rcases List.mem_cons.1 h with e | h
   ·rw [e]; exact h3.1
   ·exact ih h3.2 h
 ·rw [H47 h h1,H47 h h2]

/-! ### The stages: which of the turning operations are done -/
def Hc1 (ws:List Nat) (s:List Bool) (i:Nat):List Bool:=(ws.zip s).map fun p=>p.2||p.1==i
def Hb9 (tb:List (List Bool×Loc)) (s:List Bool):Option Loc:=(tb.find? fun p=>p.1==s).map (·.2)
def G7f (P:Program) (N:Yu) (ops:Array Oper) (ws:List Nat) (tb:List (List Bool×Loc)) (i:Nat) (o:Oper) (l:Fr) (u:AV) (s:List Bool):Prop:=
 ∃ L L1 L',Hb9 tb s=some L∧Hb9 tb (Hc1 ws s i)=some L'∧G13 P N ops o l L u L1∧G9f L1 L'
theorem G7f.ro {P:Program} {N:Yu} {ops:Array Oper} {ws:List Nat} {tb:List (List Bool×Loc)} {i:Nat} {o:Oper} {l:Fr} {u:AV} {s:List Bool} {L:Loc} (h1:Hb9 tb s=some L) (h2:Hb9 tb (Hc1 ws s i)=some L) (h:G13 P N ops o l L u L):G7f P N ops ws tb i o l u s:=⟨L,L,L,h1,h2,h,fun _=>rfl⟩
theorem G7f.w {P:Program} {N:Yu} {ops:Array Oper} {ws:List Nat} {tb:List (List Bool×Loc)} {i:Nat} {o:Oper} {l:Fr} {u:AV} {s:List Bool} {L L1 L':Loc} (ks:List Nat) (h1:Hb9 tb s=some L) (h2:Hb9 tb (Hc1 ws s i)=some L') (h:G13 P N ops o l L u L1) (k1:H48 ks L1=true) (k2:H48 ks L'=true) (k3:eqOn L1 L' ks):G7f P N ops ws tb i o l u s:=⟨L,L1,L',h1,h2,h,G9f.of ks k1 k2 k3⟩

section pre
variable {P:Program} {N:Yu} {ops:Array Oper} {ws:List Nat} {sts:List (List (List Bool))} {tb:List (List Bool×Loc)} {i:Nat} {o:Oper} {r:List Oper} {l:Fr} {K:Fr→Prop} {u:AV}
end pre

end Go.Proofs.YtapmanciffiibaaGreat
set_option linter.unusedVariables false
set_option linter.unusedSimpArgs false
set_option linter.unnecessarySimpa false
namespace Go.Proofs.YtapmanciffiibaaGreat
open Go.RowKit Go.Sort

def SortNone (P:Program) (F:FuncId):Prop:=
 ∀ (g:Nat) (cb:Array Value) (w:World),Calls P F #[.slice none 0 0,.func (.func g) #[] cb] w fun e w'=>e=.returned (.tuple #[])∧∃ n os,w'=grow (w.drewN n) os

theorem D.inv_sc {w:World} {S:Nat→Nat→Prop} {v x:Value} (h:D w S (.sc v) x):x=v:=by cases h; rfl
end Go.Proofs.YtapmanciffiibaaGreat
set_option linter.unusedVariables false
set_option linter.unusedSimpArgs false
set_option linter.unnecessarySimpa false
set_option maxRecDepth 100000
namespace Go.Proofs.YtapmanciffiibaaGreat
open Go.RowKit Go.Shelf Go.Sort

section ops
variable {P:Program} {o:Oper} {l:Fr} {L L'':Loc}
end ops
end Go.Proofs.YtapmanciffiibaaGreat
