/-
 Slices that begin as an empty literal and are appended to; appends of whole lists to an own slice; the least of three numbers. Is a slice nil: known alone of one that has elements. Appending to a part from the front of a slice of the call's own,within what it holds: the cells behind are written over.
-/
import Derived.Test.YteoeccjboahfgaaGreatMore2
namespace Go.Proofs.YteoeccjboahfgaaGreat
open Go.RowKit

def Hd8 (P:Program) (T f off:Nat):Bool:=
 match P.underlying T with
 | some (.struct fs)=>match fs[f]? with
  | some fld=>fld.offset==off&&Rc P fld.type
  | none=>false
 | _=>false
theorem Hd8.out {P:Program} {T f off:Nat} (h:Hd8 P T f off=true):∃ fs fld,P.underlying T=some (.struct fs)∧fs[f]? = some fld∧fld.offset=off∧Rc P fld.type=true:=by
 unfold Hd8 at h
 split at h
 ·rename_i fs h1
  split at h
  ·rename_i fld h2
   simp only [Bool.and_eq_true,beq_iff_eq] at h
   exact⟨fs,fld,h1,h2,h.1,h.2⟩
  ·cases h
 ·cases h

def arrNB (P:Program) (T n k:Nat):Bool:=
 match P.underlying T with
 | some (.array m e)=>m==n&&R7 P e k
 | _=>false
theorem arrNB.out {P:Program} {T n k:Nat} (h:arrNB P T n k=true):∃ e,P.underlying T=some (.array n e)∧R7 P e k=true:=by
 unfold arrNB at h
 split at h
 ·rename_i m e h1
  simp only [Bool.and_eq_true,beq_iff_eq] at h
  obtain⟨rfl,h2⟩:=h
  exact⟨_,h1,h2⟩
 ·cases h
section ops
variable {P:Program} {N:G2c} {o:Oper} {l:Fr} {L L':Loc} {u:AV} {α:Type}

def arr1B (P:Program) (T n:Nat):Bool:=
 match P.underlying T with
 | some (.array m e)=>m==n&&(Rc P e&&R7 P e 1)
 | _=>false
theorem arr1B.out {P:Program} {T n:Nat} (h:arr1B P T n=true):∃ e,P.underlying T=some (.array n e)∧Rc P e=true∧R7 P e 1=true:=by
 unfold arr1B at h
 split at h
 ·rename_i m e h1
  simp only [Bool.and_eq_true,beq_iff_eq] at h
  obtain⟨rfl,h2,h3⟩:=h
  exact⟨_,h1,h2,h3⟩
 ·cases h
end ops
end Go.Proofs.YteoeccjboahfgaaGreat
namespace Go.Proofs.YteoeccjboahfgaaGreat
open Go.RowKit

section
variable {P:Program} {o:Oper} {l:Fr} {L:Loc}
end
end Go.Proofs.YteoeccjboahfgaaGreat
namespace Go.Proofs.YteoeccjboahfgaaGreat
open Go.RowKit

section
variable {P:Program} {o:Oper} {l:Fr} {L:Loc}
end
end Go.Proofs.YteoeccjboahfgaaGreat
