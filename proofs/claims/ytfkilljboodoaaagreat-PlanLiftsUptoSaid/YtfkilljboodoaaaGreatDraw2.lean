/-
 A statement whose order is open,in which more than one operation turns the local memory without an order between them (two variables that are made).
-/
import Derived.Test.YtfkilljboodoaaaGreatMapM
namespace Go.Proofs.YtfkilljboodoaaaGreat
open Go.RowKit

def Gfc (L L':Loc):Prop:=∀ id,lk L id=lk L' id
theorem Sat.locEq {w:World} {β:H8} {L L':Loc} (h:Sat w β L) (e:Gfc L L'):Sat w β L':=by
 have hS:∀ b i,Jw w β L b i→Jw w β L' b i:=fun b i hs=>⟨hs.lt,hs.seen,fun id o ho=>hs.kept id o (by rw [e]; exact ho)⟩
 exact⟨h.hid,fun id b h1=>h.bnd id b (by rw [e]; exact h1),fun id b j h1=>h.apart id b j (by rw [e]; exact h1),fun id id' b h1 h2=>h.inj id id' b (by rw [e]; exact h1) (by rw [e]; exact h2),
  fun id o ho=>(h.obj id o (by rw [e]; exact ho)).up hS (fun id o ho=>⟨by rw [← e]; exact ho,rfl⟩)⟩
theorem Step.locEq {w w':World} {β β':H8} {L L1 L':Loc} (h:Step w β L w' β' L1) (e:Gfc L1 L'):Step w β L w' β' L' where
 os:=h.os
 tape:=h.tape
 output:=h.output
 size:=h.size
 hid:=h.hid
 stab:=fun b i hs=>by
  obtain⟨h1,h2⟩:=h.stab b i hs
  exact⟨⟨h1.lt,h1.seen,fun id o ho=>h1.kept id o (by rw [e]; exact ho)⟩,h2⟩
 far:=fun b hb hf=>by
  obtain⟨h1,h2⟩:=h.far b hb hf
  exact⟨h1,fun id hid=>h2 id (by rw [e]; exact hid)⟩
 box:=fun id t cs hi=>by obtain⟨h1,cs',h2⟩:=h.box id t cs hi; exact⟨h1,cs',by rw [← e]; exact h2⟩
 map:=fun id t cs hi=>by obtain⟨h1,cs',h2⟩:=h.map id t cs hi; exact⟨h1,cs',by rw [← e]; exact h2⟩
 iter:=fun id m n cs hi=>by obtain⟨h1,n',cs',h2⟩:=h.iter id m n cs hi; exact⟨h1,n',cs',by rw [← e]; exact h2⟩
 vec:=fun id t k ver xs hi=>by obtain⟨v,xs',h1,h2,h3⟩:=h.vec id t k ver xs hi; exact⟨v,xs',by rw [← e]; exact h1,h2,h3⟩
 spare:=fun id t k ver xs hi=>by obtain⟨v,xs',h1,h2,h3⟩:=h.spare id t k ver xs hi; exact⟨v,xs',by rw [← e]; exact h1,h2,h3⟩
theorem V.locEq {w:World} {β:H8} {L L':Loc} {u:AV} {v:Value} (h:V w β L u v) (e:Gfc L L'):V w β L' u v:=
 h.up (fun b i hs=>⟨hs.lt,hs.seen,fun id o ho=>hs.kept id o (by rw [e]; exact ho)⟩) (fun id o ho=>⟨by rw [← e]; exact ho,rfl⟩)
theorem G85.locEq {P:Program} {N:G41} {ops:Array Oper} {o:Oper} {l:Fr} {L L1 L':Loc} {u:AV} (h:G85 P N ops o l L u L1) (e:Gfc L1 L'):G85 P N ops o l L u L':=
 fun a w β K Q h1 h2 h3 h4=>h a w β K Q h1 h2 h3 (fun v w' β' k1 k2 k3=>h4 v w' β' (k1.locEq e) (k2.locEq e) (k3.locEq e))
def Hc5 (ks:List Nat):Loc→Bool
 | []=>true
 | (i,_)::r=>ks.contains i&&Hc5 ks r
def eqOn (L L':Loc):List Nat→Prop
 | []=>True
 | k::r=>lk L k=lk L' k∧eqOn L L' r
theorem Hc3 {ks:List Nat} {id:Nat} (h:id ∉ ks):∀ {L:Loc},Hc5 ks L=true→lk L id=none
 | [],_=>rfl
 | (i,o)::r,hk=>by
  simp only [Hc5,Bool.and_eq_true] at hk
  rw [Gm,if_neg (fun e=>h (by subst e; simpa using hk.1))]
  exact Hc3 h hk.2
theorem Gfc.of {L L':Loc} (ks:List Nat) (h1:Hc5 ks L=true) (h2:Hc5 ks L'=true) (h3:eqOn L L' ks):Gfc L L':=fun id=>by
 by_cases h:id∈ks
 ·clear h1 h2
  induction ks with
  | nil=>cases h
  | cons k r ih=>
   rcases List.mem_cons.1 h with e | h
   ·rw [e]; exact h3.1
   ·exact ih h3.2 h
 ·rw [Hc3 h h1,Hc3 h h2]

/-! ### The stages: which of the turning operations are done -/
def J4c (ws:List Nat) (s:List Bool) (i:Nat):List Bool:=(ws.zip s).map fun p=>p.2||p.1==i
def J41 (tb:List (List Bool×Loc)) (s:List Bool):Option Loc:=(tb.find? fun p=>p.1==s).map (·.2)
def Gd0 (P:Program) (N:G41) (ops:Array Oper) (ws:List Nat) (tb:List (List Bool×Loc)) (i:Nat) (o:Oper) (l:Fr) (u:AV) (s:List Bool):Prop:=
 ∃ L L1 L',J41 tb s=some L∧J41 tb (J4c ws s i)=some L'∧G85 P N ops o l L u L1∧Gfc L1 L'
theorem Gd0.ro {P:Program} {N:G41} {ops:Array Oper} {ws:List Nat} {tb:List (List Bool×Loc)} {i:Nat} {o:Oper} {l:Fr} {u:AV} {s:List Bool} {L:Loc} (h1:J41 tb s=some L) (h2:J41 tb (J4c ws s i)=some L) (h:G85 P N ops o l L u L):Gd0 P N ops ws tb i o l u s:=⟨L,L,L,h1,h2,h,fun _=>rfl⟩
theorem Gd0.w {P:Program} {N:G41} {ops:Array Oper} {ws:List Nat} {tb:List (List Bool×Loc)} {i:Nat} {o:Oper} {l:Fr} {u:AV} {s:List Bool} {L L1 L':Loc} (ks:List Nat) (h1:J41 tb s=some L) (h2:J41 tb (J4c ws s i)=some L') (h:G85 P N ops o l L u L1) (k1:Hc5 ks L1=true) (k2:Hc5 ks L'=true) (k3:eqOn L1 L' ks):Gd0 P N ops ws tb i o l u s:=⟨L,L1,L',h1,h2,h,Gfc.of ks k1 k2 k3⟩

section pre
variable {P:Program} {N:G41} {ops:Array Oper} {ws:List Nat} {sts:List (List (List Bool))} {tb:List (List Bool×Loc)} {i:Nat} {o:Oper} {r:List Oper} {l:Fr} {K:Fr→Prop} {u:AV}
end pre

end Go.Proofs.YtfkilljboodoaaaGreat
